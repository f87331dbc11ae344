/- FnExactWithBitsValue: texts of this claim in one: Op, RowFnExactWithBitsValue, T, ABase, ABo, ABits, AWith, LawWithBitsValue. -/
import Derived.Deep.Slices
import Derived.ChangeSame
import Derived.ChangeArms
import Derived.Test.YtcilbmbgdcepgaaWWords
import Derived.Test.YtcilbmbgdcepgaaRows
import Derived.Test.YtcilbmbgdcepgaaYFnExactWithBitsValuePx62
import Derived.WalkKit
import Derived.ProofKit
import Derived.OpenShut
import Derived.ShutString
import Derived.ChangeOld
import Derived.Below
import Derived.SizedLaws
import Derived.Test.YtcilbmbgdcepgaaWMore
import Derived.Test.YtcilbmbgdcepgaaYFnExactWithBitsValuePx2
import Derived.Test.YtcilbmbgdcepgaaYFnExactWithBitsValuePx48
import Derived.Test.YtcilbmbgdcepgaaYFnExactWithBitsValuePx53
import Derived.Test.YtcilbmbgdcepgaaYFnExactWithBitsValuePx61
import Derived.Test.YtcilbmbgdcepgaaYFnExactWithBitsValuePx43
import Derived.Test.YtcilbmbgdcepgaaYFnExactWithBitsValuePx35
import Derived.Test.YtcilbmbgdcepgaaYFnExactWithBitsValuePx36
import Derived.Test.YtcilbmbgdcepgaaYFnExactWithBitsValuePx29
import Derived.Test.YtcilbmbgdcepgaaYFnExactWithBitsValuePx30
import Derived.Test.YtcilbmbgdcepgaaZFnExactWithBitsValue0
import Derived.Test.YtcilbmbgdcepgaaYFnExactWithBitsValuePx24
import Derived.Test.YtcilbmbgdcepgaaYFnExactWithBitsValuePx25
import Derived.Test.YtcilbmbgdcepgaaYFnExactWithBitsValuePx26
import Derived.Test.YtcilbmbgdcepgaaYFnExactWithBitsValuePx27
import Derived.Test.YtcilbmbgdcepgaaYFnExactWithBitsValuePx5
import Derived.Test.YtcilbmbgdcepgaaYFnExactWithBitsValuePx6
import Derived.Test.YtcilbmbgdcepgaaYFnExactWithBitsValuePx16
import Derived.Test.YtcilbmbgdcepgaaYFnExactWithBitsValuePx7
import Derived.Test.YtcilbmbgdcepgaaYFnExactWithBitsValuePx17
import Derived.Test.YtcilbmbgdcepgaaYFnExactWithBitsValuePx18
import Derived.Test.YtcilbmbgdcepgaaYFnExactWithBitsValuePx49
import Derived.Test.YtcilbmbgdcepgaaYFnExactWithBitsValuePx50
import Derived.Test.YtcilbmbgdcepgaaYFnExactWithBitsValuePx44
import Derived.Test.YtcilbmbgdcepgaaYFnExactWithBitsValuePx45
import Derived.Test.YtcilbmbgdcepgaaYFnExactWithBitsValuePx56
import Derived.Test.YtcilbmbgdcepgaaYFnExactWithBitsValuePx59
import Derived.Test.YtcilbmbgdcepgaaYFnExactWithBitsValuePx57
import Derived.Test.YtcilbmbgdcepgaaYFnExactWithBitsValuePx60
section
/- Opens an argument that a row reads as data into the cells and lists that a contract speaks of: whole numbers, slices, structs of two and three fields. -/
namespace Go.Proofs.Ytcilbmbgdcepgaa.Op
open Go.ChangeShapes Go.WideShapes Go.Deep Go.RowKit Go.Proofs.YtcilbmbgdcepgaaW.PrintWords
set_option linter.unusedVariables false

/-- What reads as data of type t is of kind d, and meets wf. -/
def Opens (P : Program) (t : TypeId) {α : Type} (d : Kd α) (wf : α → Prop) : Prop :=
  ∀ {H : Type} {enc : TypeId × Value → H} {w : World} {base : Nat} {spare : Nat → Bool} {held : Bool} {fuel : Nat} {cs : List Value} {x : DataW H × List MemPlace},
    DataW.trod enc P w base spare held fuel t cs = some x → ∃ a, d.K w a cs ∧ wf a

def WNum (k : IntKind) (n : Int) : Prop := (Lit.int k n).wf = true
abbrev WInt : Int → Prop := WNum .i64
def WList {α : Type} (wf : α → Prop) (l : List α) : Prop := l.length ≤ maxLen ∧ ∀ a ∈ l, wf a

theorem opens_int {P : Program} {t : TypeId} {k : IntKind} (h : P.underlying t = some (.int k)) : Opens P t (Kd.int k) (WNum k) := by
  intro H enc w base spare held fuel cs x ht
  obtain ⟨n, rfl, _, hw⟩ := DataW.trod_int h ht
  exact ⟨n, rfl, hw⟩

theorem opens_slice {P : Program} {t e : TypeId} {α : Type} {d : Kd α} {wf : α → Prop} (q : Nat) (h : P.underlying t = some (.slice e)) (hc : P.cellsOf e = d.sz) (o : Opens P e d wf) :
    Opens P t (Kd.slice q d) (WList wf) := by
  intro H enc w base spare held fuel cs x ht
  rcases open_slice h ht with ⟨rfl, _⟩ | ⟨a, len, cap, m, n, D, Pl, rfl, hb, hl, hm, hmm, hx, hi⟩
  · exact ⟨[], ⟨none, 0, rfl, Nat.le_refl _, rfl, by simp, fun hn => by simp at hn⟩, by simp [WList]⟩
  · have hlm : len ≤ m := by rw [hmm]; split <;> omega
    have each : ∀ i, i < len → ∃ y cs', w.cells? base (a.add (i * d.sz)) d.sz = some cs' ∧ d.K w y cs' ∧ wf y := by
      intro i hil
      obtain ⟨cs', h1, h2⟩ := hi i (by omega)
      obtain ⟨y, hk, hw⟩ := o h2
      rw [hc] at h1
      exact ⟨y, cs', h1, hk, hw⟩
    have build : ∀ k, k ≤ len → ∃ ys : List α, ys.length = k ∧ (∀ y ∈ ys, wf y) ∧ ∀ j y, ys[j]? = some y → ∃ c, c.length = d.sz ∧ d.K w y c ∧ ∀ i u, c[i]? = some u → w.cell? (a.add (j * d.sz + i)) = some u := by
      intro k
      induction k with
      | zero => exact fun _ => ⟨[], rfl, by simp, by simp⟩
      | succ k ih =>
        intro hk
        obtain ⟨ys, hlen, hwf, hys⟩ := ih (by omega)
        obtain ⟨y, cs', h1, h2, h3⟩ := each k (by omega)
        obtain ⟨_, hcl, hat⟩ := World.cells?_some h1
        refine ⟨ys ++ [y], by simp [hlen], ?_, ?_⟩
        · intro z hz
          rcases List.mem_append.1 hz with hz | hz
          · exact hwf z hz
          · rw [List.mem_singleton.1 hz]; exact h3
        · intro j z hj
          by_cases hjk : j < k
          · rw [List.getElem?_append_left (by omega)] at hj
            exact hys j z hj
          · have hjl : j < (ys ++ [y]).length := (List.getElem?_eq_some_iff.1 hj).1
            simp only [List.length_append, List.length_singleton, hlen] at hjl
            obtain rfl : j = k := by omega
            rw [List.getElem?_append_right (by omega), hlen, Nat.sub_self] at hj
            obtain rfl : y = z := by simpa using hj
            refine ⟨cs', hcl, h2, fun i u hu => ?_⟩
            have hil : i < d.sz := by
              have := (List.getElem?_eq_some_iff.1 hu).1
              omega
            have := hat i hil
            rw [Go.Deep.add_add] at this
            rw [this, hu]
    obtain ⟨ys, hlen, hwf, hys⟩ := build len (Nat.le_refl _)
    have hmx : len ≤ maxLen := by omega
    exact ⟨ys, ⟨some a, cap, by rw [hlen], by rw [hlen]; exact hl, rfl, by rw [hlen]; exact hmx, fun _ => ⟨a, rfl, hys⟩⟩, by rw [hlen]; exact hmx, hwf⟩

theorem opens_iso {P : Program} {t : TypeId} {α β : Type} {d : Kd α} {wf : α → Prop} (f : β → α) (g : α → β) (hg : ∀ a, f (g a) = a) (o : Opens P t d wf) : Opens P t (Kd.iso d f) (fun b => wf (f b)) := by
  intro H enc w base spare held fuel cs x ht
  obtain ⟨a, h1, h2⟩ := o ht
  exact ⟨g a, by show d.K w (f (g a)) cs; rw [hg]; exact h1, by show wf (f (g a)); rw [hg]; exact h2⟩

theorem opens_two {P : Program} {t : TypeId} {f0 f1 : Field} {α β : Type} {a : Kd α} {b : Kd β} {wa : α → Prop} {wb : β → Prop}
    (h : P.underlying t = some (.struct #[f0, f1])) (hc : P.cellsOf t = a.sz + b.sz) (o0 : f0.offset = 0) (o1 : f1.offset = a.sz) (c0 : P.cellsOf f0.type = a.sz) (c1 : P.cellsOf f1.type = b.sz)
    (oa : Opens P f0.type a wa) (ob : Opens P f1.type b wb) : Opens P t (Kd.pair a b) (fun x => wa x.1 ∧ wb x.2) := by
  intro H enc w base spare held fuel cs x ht
  obtain ⟨xs, n, _, _, hlen, hxl, hf⟩ := DataW.trod_struct h ht
  have hx2 : xs.length = 2 := hxl
  have h0 := hf 0 f0 rfl
  have h1 := hf 1 f1 rfl
  rw [List.getElem?_eq_getElem (by omega)] at h0 h1
  obtain ⟨y0, k0, w0⟩ := oa h0
  obtain ⟨y1, k1, w1⟩ := ob h1
  refine ⟨(y0, y1), ⟨_, _, ?_, k0, k1⟩, w0, w1⟩
  rw [hc] at hlen
  rw [o0, o1, c0, c1, List.drop_zero]
  rw [List.take_of_length_le (l := cs.drop a.sz) (by simp; omega), List.take_append_drop]

theorem opens_three {P : Program} {t : TypeId} {f0 f1 f2 : Field} {α β γ : Type} {a : Kd α} {b : Kd β} {c : Kd γ} {wa : α → Prop} {wb : β → Prop} {wc : γ → Prop}
    (h : P.underlying t = some (.struct #[f0, f1, f2])) (hc : P.cellsOf t = a.sz + (b.sz + c.sz)) (o0 : f0.offset = 0) (o1 : f1.offset = a.sz) (o2 : f2.offset = a.sz + b.sz) (c0 : P.cellsOf f0.type = a.sz) (c1 : P.cellsOf f1.type = b.sz) (c2 : P.cellsOf f2.type = c.sz)
    (oa : Opens P f0.type a wa) (ob : Opens P f1.type b wb) (oc : Opens P f2.type c wc) : Opens P t (Kd.pair a (Kd.pair b c)) (fun x => wa x.1 ∧ wb x.2.1 ∧ wc x.2.2) := by
  intro H enc w base spare held fuel cs x ht
  obtain ⟨xs, n, _, _, hlen, hxl, hf⟩ := DataW.trod_struct h ht
  have hx2 : xs.length = 3 := hxl
  have h0 := hf 0 f0 rfl
  have h1 := hf 1 f1 rfl
  have h2 := hf 2 f2 rfl
  rw [List.getElem?_eq_getElem (by omega)] at h0 h1 h2
  obtain ⟨y0, k0, w0⟩ := oa h0
  obtain ⟨y1, k1, w1⟩ := ob h1
  obtain ⟨y2, k2, w2⟩ := oc h2
  rw [hc] at hlen
  refine ⟨(y0, y1, y2), ⟨_, cs.drop a.sz, ?_, k0, ⟨_, _, ?_, k1, k2⟩⟩, w0, w1, w2⟩
  · rw [o0, c0, List.drop_zero, List.take_append_drop]
  · rw [o1, o2, c1, c2]
    rw [List.take_of_length_le (l := cs.drop (a.sz + b.sz)) (by simp; omega), ← List.drop_drop, List.take_append_drop]

/-- A slice among the arguments. -/
theorem open_arg_slice {P : Program} {t : TypeId} {α : Type} {d : Kd α} {wf : α → Prop} {q : Nat} (o : Opens P t (Kd.slice q d) (WList wf)) {H : Type} {enc : TypeId × Value → H} {w : World} {base : Nat} {spare : Nat → Bool} {held : Bool}
    {A : Option Addr} {len cap : Nat} {D : DataW H} {ps : List MemPlace} (h : DataW.Trod enc P w base spare held t (.slice A len cap) D ps) :
    ∃ l : List α, len = l.length ∧ l.length ≤ cap ∧ d.C w A l.length l ∧ WList wf l := by
  obtain ⟨fuel, hf⟩ := h
  obtain ⟨l, ⟨A', c, he, hl, hC⟩, hw⟩ := o hf
  simp only [Value.cells, List.cons.injEq, Value.slice.injEq, and_true] at he
  obtain ⟨rfl, rfl, rfl⟩ := he
  exact ⟨l, rfl, hl, hC, hw⟩
end Go.Proofs.Ytcilbmbgdcepgaa.Op
end

section
/- FnExactWithBitsValue: the program and the reference agree for all arguments: the row over the pure statement. -/
namespace Go.Proofs.Ytcilbmbgdcepgaa.fnExactWithBitsValue
open Go.ChangeShapes Go.WideShapes Go.ChangeAt Go.RowKit
open Go.ChangeMaps (open_string shut_string)
open Go.Proofs.Ytcilbmbgdcepgaa.Op
set_option linter.unusedVariables false
def Pure : Prop := ∀ (a0_0 : Int) (a0_1 : Int) (l0_2 : (List P.S96)) (l1 : (List Int)) (a2 : Int), (WNum .i64) a0_0 → (WNum .i64) a0_1 → (WList (fun x : P.S96 => (WNum .i64) x.f0 ∧ (WNum .i64) x.f1)) l0_2 → (WList (WNum .i64)) l1 → WNum .i64 a2 → ∃ k, P.lw.f k a0_0 a0_1 l0_2 l1 a2 = some true
theorem own : ownKnob Try.prog.godebug = none := by kernel_rfl
theorem laidOut : laidOutB Try.prog = true := by kernel_rfl
theorem ty3 : Opens Try.prog 3 (Go.Proofs.YtcilbmbgdcepgaaW.PrintWords.Kd.int .i64) (WNum .i64) := opens_int Try.underlying3
theorem ty96 : Opens Try.prog 96 P.k96 (fun x : P.S96 => (WNum .i64) x.f0 ∧ (WNum .i64) x.f1) := opens_iso (fun x : P.S96 => (x.f0, x.f1)) (fun a => ⟨a.1, a.2⟩) (fun _ => rfl) (opens_two Try.underlying96 (by kernel_rfl) (by kernel_rfl) (by kernel_rfl) (by kernel_rfl) (by kernel_rfl) ty3 ty3)
theorem ty30 : Opens Try.prog 30 (Go.Proofs.YtcilbmbgdcepgaaW.PrintWords.Kd.slice 96 P.k96) (WList (fun x : P.S96 => (WNum .i64) x.f0 ∧ (WNum .i64) x.f1)) := opens_slice 96 Try.underlying30 (by kernel_rfl) ty96
theorem tw32 : Opens Try.prog 32 (Go.Proofs.YtcilbmbgdcepgaaW.PrintWords.Kd.pair (Go.Proofs.YtcilbmbgdcepgaaW.PrintWords.Kd.int .i64) (Go.Proofs.YtcilbmbgdcepgaaW.PrintWords.Kd.pair (Go.Proofs.YtcilbmbgdcepgaaW.PrintWords.Kd.int .i64) (Go.Proofs.YtcilbmbgdcepgaaW.PrintWords.Kd.slice 96 P.k96))) (fun x : Int × Int × (List P.S96) => (WNum .i64) x.1 ∧ (WNum .i64) x.2.1 ∧ (WList (fun x : P.S96 => (WNum .i64) x.f0 ∧ (WNum .i64) x.f1)) x.2.2) := opens_three Try.underlying32 (by kernel_rfl) (by kernel_rfl) (by kernel_rfl) (by kernel_rfl) (by kernel_rfl) (by kernel_rfl) (by kernel_rfl) ty3 ty3 ty30
theorem ty39 : Opens Try.prog 39 (Go.Proofs.YtcilbmbgdcepgaaW.PrintWords.Kd.slice 3 (Go.Proofs.YtcilbmbgdcepgaaW.PrintWords.Kd.int .i64)) (WList (WNum .i64)) := opens_slice 3 Try.underlying39 (by kernel_rfl) ty3
set_option maxRecDepth 100000 in
theorem lifted (pure : Pure) (os : Os) (started : os.Started) (H : Type) (enc : TypeId × Value → H) :
    ReturnsInHanded {} Try.checked os 7 .any (Rows.fnExactWithBitsValueSpec.pre6 enc Try.prog Try.f7 Rows.fnExactWithBitsValueRow.domain false) (Rows.fnExactWithBitsValueSpec.post enc Try.prog Try.f7 false true false false) := by
  refine returnsInHanded_of_change_sized (C := Try.checked) own started (by kernel_rfl) Try.func7
    (ChangeSpec.witness6 (enc := enc) (C := Try.checked) false ⟨#[], #[.agg #[.int .i64 0, .int .i64 0, .slice none 0 0], .slice none 0 0, .int .i64 0], []⟩ 8 (by kernel_rfl) (by kernel_rfl) (by kernel_rfl) (by kernel_rfl)) ?_
  intro W base args ds gs before hval0 hW hcnd hsz0 _
  have hsz : (DataW.weightsEach Try.prog (Try.f7.params.toList ++ Rows.fnExactWithBitsValueSpec.plain.varTypes Try.prog) (ds ++ gs)).all (· ≤ reachBytes) = true := hsz0
  have hval : ∀ (j : Nat) t v, Try.f7.params[j]? = some t → args[j]? = some v → Value.okWide Try.prog W .any base t v := hval0
  have hW' := hW
  obtain ⟨p, q, hA0, hV, rfl, hfz, hnd⟩ := hW
  have hA : DataW.TrodAll enc Try.prog W 0 (fun _ => true) true Try.f7.params.toList args.toList ds p := hA0
  rw [Try.params7] at hA hval hsz
  obtain ⟨v0, vs0, d0, ds0, p0, q0, hargs, rfl, rfl, h0, r0⟩ := trodAll_cons hA
  obtain ⟨v1, vs1, d1, ds1, p1, q1, rfl, rfl, rfl, h1, r1⟩ := trodAll_cons r0
  obtain ⟨v2, vs2, d2, ds2, p2, q2, rfl, rfl, rfl, h2, r2⟩ := trodAll_cons r1
  obtain ⟨rfl, rfl, rfl⟩ := trodAll_nil r2
  obtain rfl : args = #[v0, v1, v2] := by cases args; simp_all
  obtain ⟨rfl, rfl⟩ := trodVars_none hV
  have k0 := h0
  have lt0 : ∀ x ∈ p0, x.block < W.heap.size := by obtain ⟨m, hm⟩ := k0; exact DataW.trod_lt m _ _ _ hm
  obtain ⟨cs0, rfl, _⟩ := okWide_struct Try.underlying32 (hval 0 32 v0 rfl rfl)
  obtain ⟨csl0⟩ := cs0
  obtain ⟨fu0, hf0⟩ := h0
  obtain ⟨⟨a0_0, a0_1, l0_2⟩, ⟨x0_0, xr0, ex0, e0_0, ⟨x0_1, x0_2, er0, e0_1, ⟨A0_2, c0_2, e0_2, hc0_2, hC0_2⟩⟩⟩, ⟨w0_0, w0_1, w0_2⟩⟩ := tw32 hf0
  replace e0_0 : x0_0 = [Value.int .i64 a0_0] := e0_0
  replace e0_1 : x0_1 = [Value.int .i64 a0_1] := e0_1
  replace e0_2 : x0_2 = [Value.slice A0_2 l0_2.length c0_2] := e0_2
  replace hc0_2 : l0_2.length ≤ c0_2 := hc0_2
  replace hC0_2 : Go.Proofs.YtcilbmbgdcepgaaW.PrintWords.Kd.C P.k96 W A0_2 l0_2.length l0_2 := hC0_2
  replace w0_0 : (WNum .i64) a0_0 := w0_0
  replace w0_1 : (WNum .i64) a0_1 := w0_1
  replace w0_2 : (WList (fun x : P.S96 => (WNum .i64) x.f0 ∧ (WNum .i64) x.f1)) l0_2 := w0_2
  subst e0_1 e0_2 er0 e0_0 ex0
  have k1 := h1
  have lt1 : ∀ x ∈ p1, x.block < W.heap.size := by obtain ⟨m, hm⟩ := k1; exact DataW.trod_lt m _ _ _ hm
  obtain ⟨A1, len1, cap1, rfl⟩ := okWide_slice Try.underlying39 (hval 1 39 v1 rfl rfl)
  obtain ⟨l1, rfl, hc1, hC1, w1⟩ := open_arg_slice ty39 h1
  obtain ⟨a2, rfl, rfl, rfl, w2⟩ := open_int Try.underlying3 (hval 2 3 v2 rfl rfl) h2
  clear hA0 hval0 hsz0 hsz
  obtain ⟨k, hk⟩ := pure a0_0 a0_1 l0_2 l1 a2 w0_0 w0_1 w0_2 w1 w2
  refine (P.lw.calls k a0_0 a0_1 _ _ l0_2 _ _ l1 a2 true W hC0_2 hc0_2 hC1 hc1 hk).mono fun e W' ⟨he, bel⟩ => ?_
  subst he
  exact ⟨_, rfl, _, _, _, [], _, [], hW', trodAll_mk1 (shut_bool Try.underlying4 _), (trodAll_cons_mk (Below.trod laidOut (by kernel_rfl) (of_decide_eq_true (by kernel_rfl)) k0 bel lt0) (trodAll_cons_mk (Below.trod laidOut (by kernel_rfl) (of_decide_eq_true (by kernel_rfl)) k1 bel lt1) (trodAll_cons_mk (shut_int Try.underlying3 w2) trodAll_mk0))), rfl, bel.frame _, fun h => by cases h⟩
theorem over (pure : Pure) : Rows.fnExactWithBitsValueRow.holds Try.pinned (OpenSpec.ofChange Rows.fnExactWithBitsValueSpec) :=
  OpenClaim.holds_of_wide 7 Try.f7 rfl rfl rfl rfl rfl rfl rfl ⟨rfl, rfl, rfl, rfl, rfl⟩ rfl rfl rfl rfl rfl (by kernel_rfl) Try.func7 (by kernel_rfl)
    (of_decide_eq_true (by kernel_rfl)) (by unfold Func.isWrapper; first | (rw [if_pos (by decide +kernel)]; kernel_rfl) | (rw [if_neg (by decide +kernel)]; exact ⟨rfl, rfl⟩))
    (fun os started H enc _ => lifted pure os started H enc)
end Go.Proofs.Ytcilbmbgdcepgaa.fnExactWithBitsValue
end

section
/- Small laws on rounds, wrapped sums and reading of lists, for the plain laws of this seat. -/
namespace Go.Proofs.Ytcilbmbgdcepgaa.T
open Go.RowKit Go.Proofs.YtcilbmbgdcepgaaW.PrintWords Go.Proofs.YtcilbmbgdcepgaaW.PrintLast Go.Proofs.YtcilbmbgdcepgaaW.PrintMore
set_option linter.unusedVariables false

theorem wrap_id {x : Int} (h1 : -9223372036854775808 ≤ x) (h2 : x ≤ 9223372036854775807) : wrap64 x = x := by
  unfold wrap64; omega
theorem wf_lo {n : Int} (h : (Lit.int .i64 n).wf = true) : -9223372036854775808 ≤ n ∧ n ≤ 9223372036854775807 := by
  simp [Lit.wf, IntKind.min, IntKind.max, IntKind.signed, IntKind.bits] at h
  omega

theorem ev_some {α : Type} (r : α) : Ev (fun _ => some r) r := Ev.now r
/-- Rounds that are not used. -/
theorem ev_const {α : Type} {g : Option α} {r : α} (h : g = some r) : Ev (fun _ => g) r := by
  subst h; exact Ev.now r
theorem ev_bind {α β : Type} {g : Nat → Option α} {f : Nat → α → Option β} {a : α} {r : β} (h : Ev g a) (k : Ev (fun n => f n a) r) : Ev (fun n => (g n).bind (f n)) r := Ev.bind h k
theorem ev_bindc {α β : Type} {g : Option α} {f : Nat → α → Option β} {a : α} {r : β} (h : g = some a) (k : Ev (fun n => f n a) r) : Ev (fun n => g.bind (f n)) r := by
  subst h; exact k
theorem ev_pos {α : Type} {c : Prop} [Decidable c] {g f : Nat → Option α} {r : α} (h : c) (k : Ev g r) : Ev (fun n => if c then g n else f n) r := by
  simp only [if_pos h]; exact k
theorem ev_neg {α : Type} {c : Prop} [Decidable c] {g f : Nat → Option α} {r : α} (h : ¬ c) (k : Ev f r) : Ev (fun n => if c then g n else f n) r := by
  simp only [if_neg h]; exact k
theorem ev_ite {α : Type} {c : Prop} [Decidable c] {g f : Nat → Option α} {a b : α} (h : c → Ev g a) (k : ¬ c → Ev f b) : Ev (fun n => if c then g n else f n) (if c then a else b) := by
  by_cases hc : c
  · simp only [if_pos hc]; exact h hc
  · simp only [if_neg hc]; exact k hc
theorem ev_uniq {α : Type} {g : Nat → Option α} {a b : α} (h : Ev g a) (k : Ev g b) : a = b := by
  obtain ⟨K, h⟩ := h; obtain ⟨L, k⟩ := k
  have h1 := h (K + L) (by omega); have h2 := k (K + L) (by omega)
  rw [h1] at h2; exact Option.some.inj h2

theorem toNat_len {α : Type} (pre : List α) : ((pre.length : Int)).toNat = pre.length := by simp
theorem getD_mid {α : Type} (pre : List α) (y : α) (suf : List α) (z : α) : (pre ++ y :: suf).getD ((pre.length : Int)).toNat z = y := by simp
theorem lt_mid {α : Type} (pre : List α) (y : α) (suf : List α) : (pre.length : Int) < ((pre ++ y :: suf).length : Int) := by simp; omega
theorem not_lt_end {α : Type} (pre : List α) : ¬ (pre.length : Int) < ((pre ++ []).length : Int) := by simp
theorem next_mid {α : Type} (pre : List α) (y : α) (suf : List α) (h : (pre ++ y :: suf).length ≤ maxLen) : wrap64 ((pre.length : Int) + 1) = ((pre ++ [y]).length : Int) := by
  simp only [List.length_append, List.length_cons, List.length_nil, maxLen] at h ⊢
  rw [wrap_id (by omega) (by omega)]; omega
theorem assoc_mid {α : Type} (pre : List α) (y : α) (suf : List α) : pre ++ y :: suf = (pre ++ [y]) ++ suf := by simp
theorem set_mid {α : Type} (pre : List α) (y y' : α) (suf : List α) : (pre ++ y :: suf).set ((pre.length : Int)).toNat y' = (pre ++ [y']) ++ suf := by
  simp
end Go.Proofs.Ytcilbmbgdcepgaa.T
end

section
/- What the printed helpers on numbers and on lists of numbers come to. -/
namespace Go.Proofs.Ytcilbmbgdcepgaa.A
open Go.RowKit Go.Proofs.YtcilbmbgdcepgaaW.PrintWords Go.Proofs.YtcilbmbgdcepgaaW.PrintLast Go.Proofs.YtcilbmbgdcepgaaW.PrintMore Go.Proofs.Ytcilbmbgdcepgaa.P Go.Proofs.Ytcilbmbgdcepgaa.T
set_option linter.unusedVariables false
set_option linter.unusedSimpArgs false

theorem rd_mid (pre : List Int) (y : Int) (suf : List Int) : rd (pre ++ y :: suf) (pre.length : Int) = y := by simp [rd]
/-- m, m + 1, .. -/
def iota : Int → Nat → List Int
  | _, 0 => []
  | m, n + 1 => m :: iota (m + 1) n
theorem iota_length (n : Nat) : ∀ m, (iota m n).length = n := by
  induction n with
  | zero => intro m; rfl
  | succ n ih => intro m; simp [iota, ih]
theorem in_f (a lo hi : Int) : spec_l1In.f a lo hi = some (decide (lo ≤ a ∧ a ≤ hi)) := by
  unfold spec_l1In.f
  by_cases h : a ≥ lo
  · rw [if_pos h]; simp [show lo ≤ a from h]
  · rw [if_neg h]; simp; omega
theorem toInts_loop (l : List Int) : ∀ (suf pre qsuf : List Int), l = pre ++ suf → l.length ≤ maxLen → qsuf.length = suf.length →
    Ev (fun k => laws_toIntS.l0 k l (pre ++ qsuf) (pre.length : Int)) l := by
  intro suf
  induction suf with
  | nil =>
    intro pre qsuf hl hm h2
    subst hl
    obtain rfl : qsuf = [] := List.length_eq_zero_iff.1 h2
    refine Ev.step (fun k => laws_toIntS.l0.eq_2 ..) ?_
    exact ev_neg (not_lt_end _) (ev_const rfl)
  | cons y suf ih =>
    intro pre qsuf hl hm h2
    subst hl
    obtain ⟨z, qsuf, rfl⟩ : ∃ z t, qsuf = z :: t := by cases qsuf with | nil => simp at h2 | cons z t => exact ⟨z, t, rfl⟩
    refine Ev.step (fun k => laws_toIntS.l0.eq_2 ..) ?_
    refine ev_pos (lt_mid _ _ _) (ev_pos (by omega) (ev_pos (lt_mid _ _ _) ?_))
    rw [next_mid _ _ _ hm, set_mid, rd_mid]
    exact ih (pre ++ [y]) qsuf (assoc_mid _ _ _) hm (by simpa using h2)
theorem toInts (l : List Int) (h : l.length ≤ 1048576) : Ev (fun k => laws_toIntS.f k l) l := by
  have := toInts_loop l l [] (List.replicate l.length 0) rfl (by simp only [maxLen]; omega) (by simp)
  unfold laws_toIntS.f
  refine ev_pos (by omega) (ev_pos (by simp; omega) ?_)
  simpa using this
theorem eqInts_loop (l : List Int) : ∀ (suf pre : List Int), l = pre ++ suf → l.length ≤ maxLen → Ev (fun k => laws_eqIntS.l0 k l l (pre.length : Int)) true := by
  intro suf
  induction suf with
  | nil =>
    intro pre hl hm
    subst hl
    refine Ev.step (fun k => laws_eqIntS.l0.eq_2 ..) ?_
    exact ev_neg (not_lt_end _) (ev_const rfl)
  | cons y suf ih =>
    intro pre hl hm
    subst hl
    refine Ev.step (fun k => laws_eqIntS.l0.eq_2 ..) ?_
    refine ev_pos (lt_mid _ _ _) (ev_pos (by omega) (ev_pos (lt_mid _ _ _) (ev_pos rfl ?_)))
    rw [next_mid _ _ _ hm]
    exact ih (pre ++ [y]) (assoc_mid _ _ _) hm
theorem eqInts (l : List Int) (h : l.length ≤ maxLen) : Ev (fun k => laws_eqIntS.f k l l) true := by
  unfold laws_eqIntS.f
  exact ev_pos rfl (eqInts_loop l l [] rfl h)
theorem markInts_loop : ∀ (suf pre : List Int) (m : Int), (pre ++ suf).length ≤ maxLen → 0 ≤ m → m + (suf.length : Int) ≤ 9223372036854775807 →
    Ev (fun k => laws_markIntS.l0 k (pre ++ suf) m (pre.length : Int)) (m + (suf.length : Int), pre ++ iota m suf.length) := by
  intro suf
  induction suf with
  | nil =>
    intro pre m hm h0 h1
    refine Ev.step (fun k => laws_markIntS.l0.eq_2 ..) ?_
    exact ev_neg (not_lt_end _) (ev_const (by simp [iota]))
  | cons y suf ih =>
    intro pre m hm h0 h1
    simp only [List.length_cons, Int.natCast_add, Int.natCast_one] at h1
    refine Ev.step (fun k => laws_markIntS.l0.eq_2 ..) ?_
    refine ev_pos (lt_mid _ _ _) (ev_pos (by omega) ?_)
    rw [next_mid _ _ _ hm, set_mid, wrap_id (x := m + 1) (by omega) (by omega)]
    have := ih (pre ++ [m]) (m + 1) (by simpa using hm) (by omega) (by omega)
    rw [show ((pre ++ [m]).length : Int) = ((pre ++ [y]).length : Int) by simp] at this
    rw [show (m + ((y :: suf).length : Int), pre ++ iota m (y :: suf).length) = (m + 1 + (suf.length : Int), pre ++ [m] ++ iota (m + 1) suf.length) by simp [iota]; omega]
    exact this
theorem markInts (l : List Int) (m : Int) (h : l.length ≤ maxLen) (h0 : 0 ≤ m) (h1 : m + (l.length : Int) ≤ 9223372036854775807) : Ev (fun k => laws_markIntS.f k l m) (m + (l.length : Int), iota m l.length) := by
  unfold laws_markIntS.f
  exact markInts_loop l [] m h h0 h1
theorem l1Has_loop (l : List Int) (n : Int) (hm : l.length ≤ maxLen) : ∀ (suf pre : List Int), l = pre ++ suf →
    Ev (fun k => spec_l1Has.l0 k n l (l.length : Int) (pre.length : Int)) (decide (n ∈ suf)) := by
  intro suf
  induction suf with
  | nil =>
    intro pre hl
    subst hl
    refine Ev.step (fun k => spec_l1Has.l0.eq_2 ..) ?_
    exact ev_neg (not_lt_end _) (ev_const (by simp))
  | cons y suf ih =>
    intro pre hl
    subst hl
    refine Ev.step (fun k => spec_l1Has.l0.eq_2 ..) ?_
    refine ev_pos (lt_mid _ _ _) (ev_pos (by omega) (ev_pos (lt_mid _ _ _) ?_))
    simp only [rd_mid]
    by_cases h : y = n
    · refine ev_pos h (ev_const ?_)
      rw [decide_eq_true (by rw [h]; exact List.mem_cons_self)]
    · refine ev_neg h ?_
      rw [next_mid _ _ _ hm]
      have := ih (pre ++ [y]) (assoc_mid _ _ _)
      rw [show decide (n ∈ y :: suf) = decide (n ∈ suf) by rw [decide_eq_decide, List.mem_cons]; exact ⟨fun hh => hh.resolve_left (fun e => h e.symm), Or.inr⟩]
      exact this
theorem l1Has (l : List Int) (n : Int) (hm : l.length ≤ maxLen) : Ev (fun k => spec_l1Has.f k l n) (decide (n ∈ l)) := by
  unfold spec_l1Has.f
  exact l1Has_loop l n hm l [] rfl
end Go.Proofs.Ytcilbmbgdcepgaa.A
end

section
/- What the printed functions on cells and boards come to: copies, comparison, marks, and the tests whether a board is valid. -/
namespace Go.Proofs.Ytcilbmbgdcepgaa.A
open Go.RowKit Go.Proofs.YtcilbmbgdcepgaaW.PrintWords Go.Proofs.YtcilbmbgdcepgaaW.PrintLast Go.Proofs.YtcilbmbgdcepgaaW.PrintMore Go.Proofs.Ytcilbmbgdcepgaa.P Go.Proofs.Ytcilbmbgdcepgaa.T
set_option linter.unusedVariables false
set_option linter.unusedSimpArgs false

theorem rdc_mid (pre : List S71) (y : S71) (suf : List S71) : rd_T71 (pre ++ y :: suf) (pre.length : Int) = y := by simp [rd_T71]
/-- The copy of one cell. -/
def cpC (x : S96) : S71 := ⟨x.f0, x.f1⟩
theorem toCells_loop (l : List S96) : ∀ (suf pre : List S96) (qre qsuf : List S71), l = pre ++ suf → l.length ≤ maxLen → qre.length = pre.length → qsuf.length = suf.length →
    Ev (fun k => laws_toCellS.l0 k l (qre ++ qsuf) (pre.length : Int)) (qre ++ suf.map cpC) := by
  intro suf
  induction suf with
  | nil =>
    intro pre qre qsuf hl hm h1 h2
    subst hl
    obtain rfl : qsuf = [] := List.length_eq_zero_iff.1 h2
    refine Ev.step (fun k => laws_toCellS.l0.eq_2 ..) ?_
    refine ev_neg (not_lt_end _) (ev_const (by simp))
  | cons y suf ih =>
    intro pre qre qsuf hl hm h1 h2
    subst hl
    obtain ⟨z, qsuf, rfl⟩ : ∃ z t, qsuf = z :: t := by cases qsuf with | nil => simp at h2 | cons z t => exact ⟨z, t, rfl⟩
    refine Ev.step (fun k => laws_toCellS.l0.eq_2 ..) ?_
    refine ev_pos (lt_mid _ _ _) (ev_pos (by omega) ?_)
    simp only [laws_toCell.f, Option.bind_some, rd_T96, getD_mid]
    refine ev_pos (by rw [← h1]; exact lt_mid _ _ _) ?_
    rw [next_mid _ _ _ hm, ← h1, set_mid]
    have := ih (pre ++ [y]) (qre ++ [cpC y]) qsuf (assoc_mid _ _ _) hm (by simp [h1]) (by simpa using h2)
    simpa [cpC] using this
theorem toCells (l : List S96) (h : l.length ≤ 1048576) : Ev (fun k => laws_toCellS.f k l) (l.map cpC) := by
  have := toCells_loop l l [] [] (List.replicate l.length z71) rfl (by simp only [maxLen]; omega) rfl (by simp)
  unfold laws_toCellS.f
  refine ev_pos (by omega) (ev_pos (by simp; omega) ?_)
  simpa using this
theorem toBo (a b : Int) (l : List S96) (h : l.length ≤ 1048576) : Ev (fun k => laws_toBoard.f k a b l) (a, b, l.map cpC) := by
  unfold laws_toBoard.f
  exact ev_bind (toCells l h) (ev_const rfl)
theorem szBo (r c : Int) (l : List S96) (a : Int) (ha : 0 ≤ a ∧ a ≤ 1048576) (h : l.length ≤ maxLen) : laws_szBoard.f r c l a = some (if a - (l.length : Int) < 0 then -1 else a - (l.length : Int)) := by
  unfold laws_szBoard.f laws_szCellS.f
  simp only [maxLen] at h
  rw [wrap_id (x := a - (l.length : Int)) (by omega) (by omega)]
  by_cases h1 : a - (l.length : Int) < 0
  · rw [if_pos h1, Option.bind_some, if_pos (by omega), if_pos h1]
  · rw [if_neg h1, Option.bind_some, if_neg h1, if_neg h1]
theorem eqCells_loop (l : List S71) : ∀ (suf pre : List S71), l = pre ++ suf → l.length ≤ maxLen → Ev (fun k => laws_eqCellS.l0 k l l (pre.length : Int)) true := by
  intro suf
  induction suf with
  | nil =>
    intro pre hl hm
    subst hl
    refine Ev.step (fun k => laws_eqCellS.l0.eq_2 ..) ?_
    refine ev_neg (not_lt_end _) (ev_const rfl)
  | cons y suf ih =>
    intro pre hl hm
    subst hl
    refine Ev.step (fun k => laws_eqCellS.l0.eq_2 ..) ?_
    refine ev_pos (lt_mid _ _ _) (ev_pos (by omega) (ev_pos (lt_mid _ _ _) ?_))
    simp only [laws_eqCell.f, if_true, Option.bind_some]
    rw [next_mid _ _ _ hm]
    exact ih (pre ++ [y]) (assoc_mid _ _ _) hm
theorem eqCells (l : List S71) (h : l.length ≤ maxLen) : Ev (fun k => laws_eqCellS.f k l l) true := by
  unfold laws_eqCellS.f
  exact ev_pos rfl (eqCells_loop l l [] rfl h)
theorem eqBo (a b : Int) (l : List S71) (h : l.length ≤ maxLen) : Ev (fun k => laws_eqBoard.f k a b l a b l) true := by
  unfold laws_eqBoard.f
  exact ev_pos rfl (ev_pos rfl (ev_bind (eqCells l h) (ev_const rfl)))
def iotaC : Int → Nat → List S71
  | _, 0 => []
  | m, n + 1 => ⟨m, m + 1⟩ :: iotaC (m + 2) n
theorem iotaC_length (n : Nat) : ∀ m, (iotaC m n).length = n := by
  induction n with
  | zero => intro m; rfl
  | succ n ih => intro m; simp [iotaC, ih]
theorem markCells_loop : ∀ (suf pre : List S71) (m : Int), (pre ++ suf).length ≤ maxLen → 0 ≤ m → m + 2 * (suf.length : Int) ≤ 9223372036854775807 →
    Ev (fun k => laws_markCellS.l0 k (pre ++ suf) m (pre.length : Int)) (m + 2 * (suf.length : Int), pre ++ iotaC m suf.length) := by
  intro suf
  induction suf with
  | nil =>
    intro pre m hm h0 h1
    refine Ev.step (fun k => laws_markCellS.l0.eq_2 ..) ?_
    exact ev_neg (not_lt_end _) (ev_const (by simp [iotaC]))
  | cons y suf ih =>
    intro pre m hm h0 h1
    simp only [List.length_cons, Int.natCast_add, Int.natCast_one] at h1
    refine Ev.step (fun k => laws_markCellS.l0.eq_2 ..) ?_
    refine ev_pos (lt_mid _ _ _) (ev_pos (by omega) ?_)
    simp only [Option.bind_some]
    rw [next_mid _ _ _ hm, set_mid, List.append_assoc, List.singleton_append]
    simp only [rdc_mid]
    rw [set_mid, wrap_id (x := m + 1) (by omega) (by omega), wrap_id (x := m + 1 + 1) (by omega) (by omega)]
    have := ih (pre ++ [⟨m, m + 1⟩]) (m + 2) (by simpa using hm) (by omega) (by omega)
    rw [show ((pre ++ [(⟨m, m + 1⟩ : S71)]).length : Int) = ((pre ++ [y]).length : Int) by simp] at this
    rw [show (m + 2 * ((y :: suf).length : Int), pre ++ iotaC m (y :: suf).length) = (m + 2 + 2 * (suf.length : Int), pre ++ [(⟨m, m + 1⟩ : S71)] ++ iotaC (m + 2) suf.length) by simp [iotaC]; omega, show m + 1 + 1 = m + 2 by omega]
    exact this
theorem markBo (a b : Int) (l : List S71) (m : Int) (h : l.length ≤ maxLen) (h0 : 0 ≤ m) (h1 : m + 2 * (l.length : Int) ≤ 9223372036854775807) : Ev (fun k => laws_markBoard.f k a b l m) (m + 2 * (l.length : Int), iotaC m l.length) := by
  unfold laws_markBoard.f laws_markCellS.f
  exact ev_bind (markCells_loop l [] m h h0 h1) (ev_const rfl)
theorem heldCells_loop : ∀ (n : Nat) (pre : List S71) (m : Int), (pre ++ iotaC m n).length ≤ maxLen → 0 ≤ m → m + 2 * (n : Int) ≤ 9223372036854775807 →
    Ev (fun k => laws_heldCellS.l0 k (pre ++ iotaC m n) m (pre.length : Int)) (m + 2 * (n : Int)) := by
  intro n
  induction n with
  | zero =>
    intro pre m hm h0 h1
    refine Ev.step (fun k => laws_heldCellS.l0.eq_2 ..) ?_
    exact ev_neg (not_lt_end _) (ev_const (by simp))
  | succ n ih =>
    intro pre m hm h0 h1
    refine Ev.step (fun k => laws_heldCellS.l0.eq_2 ..) ?_
    simp only [iotaC] at hm ⊢
    refine ev_pos (lt_mid _ _ _) (ev_pos (by omega) ?_)
    have w1 : wrap64 (m + 1) = m + 1 := wrap_id (by omega) (by omega)
    have w2 : wrap64 (m + 1 + 1) = m + 2 := (wrap_id (by omega) (by omega)).trans (by omega)
    simp only [rdc_mid, w1, w2, if_true]
    rw [next_mid _ _ _ hm, assoc_mid]
    have := ih (pre ++ [⟨m, m + 1⟩]) (m + 2) (by simpa using hm) (by omega) (by omega)
    rw [show m + 2 * ((n + 1 : Nat) : Int) = m + 2 + 2 * (n : Int) by omega]
    exact this
theorem heldBo (a b : Int) (n : Nat) (m : Int) (h : n ≤ maxLen) (h0 : 0 ≤ m) (h1 : m + 2 * (n : Int) ≤ 9223372036854775807) : Ev (fun k => laws_heldBoard.f k a b (iotaC m n) m) (m + 2 * (n : Int)) := by
  unfold laws_heldBoard.f laws_heldCellS.f
  exact ev_bind (heldCells_loop n [] m (by simpa [iotaC_length] using h) h0 h1) (ev_neg (by omega) (ev_const rfl))
def CellOk (a b : Int) : Prop := (0 ≤ a ∧ a ≤ 7) ∧ (b = 0 ∨ b = 1 ∧ (a = 3 ∨ a = 6))
instance (a b : Int) : Decidable (CellOk a b) := by unfold CellOk; infer_instance
def BoOk (r c : Int) (l : List S71) : Prop := (1 ≤ r ∧ r ≤ 10) ∧ (1 ≤ c ∧ c ≤ 9) ∧ (l.length : Int) = r * c ∧ ∀ x ∈ l, CellOk x.f0 x.f1
instance (r c : Int) (l : List S71) : Decidable (BoOk r c l) := by unfold BoOk; infer_instance
theorem mul_small {r c : Int} (h1 : 1 ≤ r ∧ r ≤ 10) (h2 : 1 ≤ c ∧ c ≤ 9) : 1 ≤ r * c ∧ r * c ≤ 90 := by
  have h : r = 1 ∨ r = 2 ∨ r = 3 ∨ r = 4 ∨ r = 5 ∨ r = 6 ∨ r = 7 ∨ r = 8 ∨ r = 9 ∨ r = 10 := by omega
  rcases h with rfl | rfl | rfl | rfl | rfl | rfl | rfl | rfl | rfl | rfl <;> omega
theorem BoOk.len {r c : Int} {l : List S71} (h : BoOk r c l) : l.length ≤ 90 := by
  have := mul_small h.1 h.2.1
  have := h.2.2.1
  omega
theorem paTurning (a b : Int) : spec_paTurning.f a b = some (decide (a = 3 ∨ a = 6)) := by
  unfold spec_paTurning.f
  by_cases h : a = 3
  · rw [if_pos h]; simp [h]
  · rw [if_neg h]; simp [h, Bool.beq_eq_decide_eq]
theorem paGood (a b : Int) : spec_paGood.f a b = some (decide (CellOk a b)) := by
  unfold spec_paGood.f
  rw [in_f, Option.bind_some, paTurning]
  by_cases h : 0 ≤ a ∧ a ≤ 7
  · rw [if_pos (by simpa using h)]
    by_cases h1 : b = 0
    · rw [if_pos h1]; rw [decide_eq_true (show CellOk a b from ⟨h, .inl h1⟩)]
    · rw [if_neg h1]
      by_cases h2 : b = 1
      · rw [if_pos h2, Option.bind_some, Option.some.injEq, decide_eq_decide]
        exact ⟨fun h3 => ⟨h, .inr ⟨h2, h3⟩⟩, fun h3 => (h3.2.resolve_left h1).2⟩
      · rw [if_neg h2, decide_eq_false (fun h3 : CellOk a b => h2 (h3.2.resolve_left h1).1)]
  · rw [if_neg (by simpa using h), decide_eq_false (fun h3 : CellOk a b => h h3.1)]
theorem isCell (a b : Int) : impl_IsCell.f a b = some (decide (CellOk a b)) := by
  unfold impl_IsCell.f
  by_cases h : 0 ≤ a ∧ a ≤ 7
  · rw [if_neg (by omega), if_neg (by omega)]
    by_cases h1 : b < 0
    · rw [if_pos h1, decide_eq_false (fun h3 : CellOk a b => by have := h3.2; omega)]
    rw [if_neg h1]
    by_cases h2 : b > 1
    · rw [if_pos h2, decide_eq_false (fun h3 : CellOk a b => by have := h3.2; omega)]
    rw [if_neg h2]
    by_cases h3 : b = 0
    · rw [if_pos h3, decide_eq_true (show CellOk a b from ⟨h, .inl h3⟩)]
    rw [if_neg h3]
    have h4 : b = 1 := by omega
    by_cases h5 : a = 3
    · rw [if_pos h5, decide_eq_true (show CellOk a b from ⟨h, .inr ⟨h4, .inl h5⟩⟩)]
    · rw [if_neg h5, Bool.beq_eq_decide_eq, Option.some.injEq, decide_eq_decide]
      exact ⟨fun h6 => ⟨h, .inr ⟨h4, .inr h6⟩⟩, fun h6 => (h6.2.resolve_left h3).2.resolve_left h5⟩
  · rw [decide_eq_false (fun h3 : CellOk a b => h h3.1)]
    by_cases h1 : a < 0
    · rw [if_pos h1]
    · rw [if_neg h1, if_pos (by omega)]
theorem boGood_loop (l : List S71) (hm : l.length ≤ maxLen) : ∀ (suf pre : List S71), l = pre ++ suf →
    Ev (fun k => spec_boGood.l0 k l (l.length : Int) (pre.length : Int)) (decide (∀ x ∈ suf, CellOk x.f0 x.f1)) := by
  intro suf
  induction suf with
  | nil =>
    intro pre hl
    subst hl
    exact Ev.step (fun k => spec_boGood.l0.eq_2 ..) (ev_neg (not_lt_end _) (ev_const (by simp)))
  | cons y suf ih =>
    intro pre hl
    subst hl
    refine Ev.step (fun k => spec_boGood.l0.eq_2 ..) (ev_pos (lt_mid _ _ _) (ev_pos (by omega) (ev_pos (lt_mid _ _ _) ?_)))
    simp only [rdc_mid, paGood, Option.bind_some, decide_eq_true_eq]
    by_cases h : CellOk y.f0 y.f1
    · refine ev_pos h ?_
      rw [next_mid _ _ _ hm]
      rw [show decide (∀ x ∈ y :: suf, CellOk x.f0 x.f1) = decide (∀ x ∈ suf, CellOk x.f0 x.f1) by rw [decide_eq_decide]; simp [h]]
      exact ih (pre ++ [y]) (assoc_mid _ _ _)
    · refine ev_neg h (ev_const ?_)
      rw [show decide (∀ x ∈ y :: suf, CellOk x.f0 x.f1) = false from decide_eq_false (fun hh => h (hh y List.mem_cons_self))]
theorem boGood (r c : Int) (l : List S71) (hm : l.length ≤ maxLen) : Ev (fun k => spec_boGood.f k r c l) (decide (BoOk r c l)) := by
  unfold spec_boGood.f
  have no : ∀ b, b = true → ¬ BoOk r c l → Ev (fun k => spec_boGood.j0 k b r c l) (decide (BoOk r c l)) := by
    intro b hb h
    rw [decide_eq_false h]
    exact Ev.step (fun k => spec_boGood.j0.eq_2 ..) (ev_pos hb (ev_const rfl))
  simp only [in_f, Option.bind_some, decide_eq_true_eq]
  by_cases h1 : 1 ≤ r ∧ r ≤ 10
  · refine ev_pos h1 ?_
    by_cases h2 : 1 ≤ c ∧ c ≤ 9
    · have h3 := mul_small h1 h2
      refine ev_pos h2 ?_
      rw [wrap_id (by omega) (by omega)]
      by_cases h4 : (l.length : Int) = r * c
      · rw [show ((l.length : Int) != r * c) = false by simpa using h4]
        refine Ev.step (fun k => spec_boGood.j0.eq_2 ..) (ev_neg (by simp) ?_)
        rw [show decide (BoOk r c l) = decide (∀ x ∈ l, CellOk x.f0 x.f1) from decide_eq_decide.2 ⟨fun h => h.2.2.2, fun h => ⟨h1, h2, h4, h⟩⟩]
        exact boGood_loop l hm l [] rfl
      · exact no _ (by simpa using h4) (fun h => h4 h.2.2.1)
    · exact ev_neg h2 (no _ rfl (fun h => h2 h.2.1))
  · exact ev_neg h1 (no _ rfl (fun h => h1 h.1))
theorem validCells_loop (l : List S71) (hm : l.length ≤ maxLen) : ∀ (suf pre : List S71), l = pre ++ suf →
    Ev (fun k => impl_validCells.l0 k l (l.length : Int) (pre.length : Int)) (decide (∀ x ∈ suf, CellOk x.f0 x.f1)) := by
  intro suf
  induction suf with
  | nil =>
    intro pre hl
    subst hl
    exact Ev.step (fun k => impl_validCells.l0.eq_2 ..) (ev_neg (not_lt_end _) (ev_const (by simp)))
  | cons y suf ih =>
    intro pre hl
    subst hl
    refine Ev.step (fun k => impl_validCells.l0.eq_2 ..) (ev_pos (lt_mid _ _ _) (ev_pos (by omega) (ev_pos (lt_mid _ _ _) ?_)))
    simp only [rdc_mid, isCell, Option.bind_some, decide_eq_true_eq]
    by_cases h : CellOk y.f0 y.f1
    · refine ev_pos h ?_
      rw [next_mid _ _ _ hm]
      rw [show decide (∀ x ∈ y :: suf, CellOk x.f0 x.f1) = decide (∀ x ∈ suf, CellOk x.f0 x.f1) by rw [decide_eq_decide]; simp [h]]
      exact ih (pre ++ [y]) (assoc_mid _ _ _)
    · refine ev_neg h (ev_const ?_)
      rw [show decide (∀ x ∈ y :: suf, CellOk x.f0 x.f1) = false from decide_eq_false (fun hh => h (hh y List.mem_cons_self))]
theorem isBoard (r c : Int) (l : List S71) (hm : l.length ≤ maxLen) : Ev (fun k => impl_IsBoard.f k r c l) (decide (BoOk r c l)) := by
  unfold impl_IsBoard.f
  have no : ¬ BoOk r c l → Ev (fun _ : Nat => some false) (decide (BoOk r c l)) := by
    intro h; rw [decide_eq_false h]; exact ev_const rfl
  by_cases h1 : 1 ≤ r
  · refine ev_pos h1 ?_
    by_cases h2 : r ≤ 10
    · refine ev_pos h2 ?_
      by_cases h3 : 1 ≤ c
      · refine ev_pos h3 ?_
        by_cases h4 : c ≤ 9
        · refine ev_pos h4 ?_
          have h5 := mul_small ⟨h1, h2⟩ ⟨h3, h4⟩
          rw [wrap_id (by omega) (by omega)]
          by_cases h6 : (l.length : Int) = r * c
          · refine ev_pos h6 ?_
            rw [show decide (BoOk r c l) = decide (∀ x ∈ l, CellOk x.f0 x.f1) from decide_eq_decide.2 ⟨fun h => h.2.2.2, fun h => ⟨⟨h1, h2⟩, ⟨h3, h4⟩, h6, h⟩⟩]
            unfold impl_validCells.f
            exact ev_bind (ev_neg (by omega) (validCells_loop l hm l [] rfl)) (ev_const rfl)
          · exact ev_neg h6 (no (fun h => h6 h.2.2.1))
        · exact ev_neg h4 (no (fun h => h4 h.2.1.2))
      · exact ev_neg h3 (no (fun h => h3 h.2.1.1))
    · exact ev_neg h2 (no (fun h => h2 h.1.2))
  · exact ev_neg h1 (no (fun h => h1 h.1.1))
end Go.Proofs.Ytcilbmbgdcepgaa.A
end

section
/- What the printed functions on chosen bits of a board come to. -/
namespace Go.Proofs.Ytcilbmbgdcepgaa.A
open Go.RowKit Go.Proofs.YtcilbmbgdcepgaaW.PrintWords Go.Proofs.YtcilbmbgdcepgaaW.PrintLast Go.Proofs.YtcilbmbgdcepgaaW.PrintMore Go.Proofs.Ytcilbmbgdcepgaa.P Go.Proofs.Ytcilbmbgdcepgaa.T
set_option linter.unusedVariables false
set_option linter.unusedSimpArgs false

theorem shlb : ∀ (i : Fin 5) (s : Fin 2), shl .i64 ((s.val : Nat) : Int) ((i.val : Nat) : Int) = (s.val : Int) * 2 ^ i.val := by decide
theorem orb : ∀ (i : Fin 5) (v : Fin 16) (s : Fin 2), v.val < 2 ^ i.val → Go.bits .or .i64 ((v.val : Nat) : Int) ((s.val : Int) * 2 ^ i.val) = (v.val : Int) + (s.val : Int) * 2 ^ i.val := by decide
theorem u64b : ∀ (i : Fin 5), IntKind.u64.wrap ((i.val : Nat) : Int) = ((i.val : Nat) : Int) := by decide
/-- The number with the bits f 0, f 1, .. -/
def VB (f : Nat → Int) : Nat → Int
  | 0 => 0
  | i + 1 => VB f i + f i * 2 ^ i
theorem VB_bound {f : Nat → Int} (hf : ∀ i, f i = 0 ∨ f i = 1) : ∀ i, 0 ≤ VB f i ∧ VB f i < 2 ^ i := by
  intro i
  induction i with
  | zero => exact ⟨Int.le_refl 0, by simp [VB]⟩
  | succ i ih =>
    have h2 : (0 : Int) < 2 ^ i := Int.pow_pos (by decide)
    have e : (2 : Int) ^ (i + 1) = 2 ^ i + 2 ^ i := by rw [Int.pow_succ]; omega
    rcases hf i with hs | hs <;> (simp only [VB, hs, e]; omega)
theorem VB_32 {f : Nat → Int} (hf : ∀ i, f i = 0 ∨ f i = 1) (i : Nat) (hi : i ≤ 5) : 0 ≤ VB f i ∧ VB f i ≤ 32 := by
  have := VB_bound hf i
  have h2 : (2 : Int) ^ i ≤ 32 := by
    have : i = 0 ∨ i = 1 ∨ i = 2 ∨ i = 3 ∨ i = 4 ∨ i = 5 := by omega
    rcases this with rfl | rfl | rfl | rfl | rfl | rfl <;> decide
  omega
theorem shl_f {f : Nat → Int} (hf : ∀ i, f i = 0 ∨ f i = 1) (i : Nat) (hi : i < 5) : shl .i64 (f i) (i : Int) = f i * 2 ^ i := by
  rcases hf i with hs | hs <;> rw [hs]
  · exact shlb ⟨i, hi⟩ ⟨0, by decide⟩
  · exact shlb ⟨i, hi⟩ ⟨1, by decide⟩
theorem or_f {f : Nat → Int} (hf : ∀ i, f i = 0 ∨ f i = 1) (i : Nat) (hi : i < 5) : Go.bits .or .i64 (VB f i) (shl .i64 (f i) (i : Int)) = VB f (i + 1) := by
  have hb := VB_bound hf i
  obtain ⟨v, hv⟩ := Int.eq_ofNat_of_zero_le hb.1
  have hp : (2 : Int) ^ i ≤ 16 := by
    have : i = 0 ∨ i = 1 ∨ i = 2 ∨ i = 3 ∨ i = 4 := by omega
    rcases this with rfl | rfl | rfl | rfl | rfl <;> decide
  have hv2 : v < 2 ^ i := by
    have := hb.2; rw [hv] at this; exact_mod_cast this
  have hv3 : v < 16 := by have := hb.2; omega
  rw [shl_f hf i hi, VB, hv]
  rcases hf i with hs | hs <;> rw [hs]
  · exact orb ⟨i, hi⟩ ⟨v, hv3⟩ ⟨0, by decide⟩ hv2
  · exact orb ⟨i, hi⟩ ⟨v, hv3⟩ ⟨1, by decide⟩ hv2
/-- The state of the cell that a number names. -/
def stX (l : List S71) (x : Int) : Int := (rd_T71 l x).f1
theorem rdc_mem {l : List S71} {i : Int} (h0 : 0 ≤ i) (h1 : i < l.length) : rd_T71 l i ∈ l := by
  obtain ⟨n, rfl⟩ := Int.eq_ofNat_of_zero_le h0
  simp only [rd_T71, Int.toNat_natCast]
  rw [List.getD_eq_getElem?_getD, List.getElem?_eq_getElem (by omega)]
  exact List.getElem_mem _
theorem stX_bit {r c : Int} {l : List S71} (h : BoOk r c l) (x : Int) : stX l x = 0 ∨ stX l x = 1 := by
  unfold stX
  by_cases hx : x.toNat < l.length
  · have hm : rd_T71 l x ∈ l := by
      unfold rd_T71
      rw [List.getD_eq_getElem?_getD, List.getElem?_eq_getElem hx]; exact List.getElem_mem _
    have := (h.2.2.2 _ hm).2
    omega
  · unfold rd_T71
    rw [List.getD_eq_getElem?_getD, List.getElem?_eq_none (by omega)]
    exact .inl rfl
def bitF (l : List S71) (bits : List Int) (i : Nat) : Int := stX l (rd bits i)
theorem isTurning (a b : Int) : impl_IsTurning.f a b = some (decide (CellOk a b ∧ (a = 3 ∨ a = 6))) := by
  unfold impl_IsTurning.f
  rw [isCell, Option.bind_some]
  by_cases h : CellOk a b
  · rw [if_pos (by simpa using h)]
    by_cases h3 : a = 3
    · rw [if_pos h3, decide_eq_true (show CellOk a b ∧ (a = 3 ∨ a = 6) from ⟨h, .inl h3⟩)]
    · rw [if_neg h3, Bool.beq_eq_decide_eq, Option.some.injEq, decide_eq_decide]
      exact ⟨fun h6 => ⟨h, .inr h6⟩, fun h6 => h6.2.resolve_left h3⟩
  · rw [if_neg (by simpa using h), decide_eq_false (fun h2 => h h2.1)]
theorem turnsI_eq {r c : Int} {l : List S71} (h : BoOk r c l) {x : Int} (h0 : 0 ≤ x) (h1 : x < l.length) : turnsI l x = decide ((rd_T71 l x).f0 = 3 ∨ (rd_T71 l x).f0 = 6) := by
  unfold turnsI
  have := h.2.2.2 _ (rdc_mem h0 h1)
  rw [decide_eq_decide, isTurning, Option.some.injEq, decide_eq_true_eq]
  exact ⟨fun h2 => h2.2, fun h2 => ⟨this, h2⟩⟩
theorem goT_mem {l : List S71} : ∀ {rest pre : List Int}, goT l pre rest = true → ∀ x ∈ rest, 0 ≤ x ∧ x < l.length := by
  intro rest
  induction rest with
  | nil => intro pre _ x hx; simp at hx
  | cons y rest ih =>
    intro pre h x hx
    simp only [goT, Bool.and_eq_true, decide_eq_true_eq] at h
    rcases List.mem_cons.1 hx with rfl | hx
    · exact h.1.1.1
    · exact ih h.2 x hx
def ChoOk (r c : Int) (l : List S71) (bits : List Int) : Prop := BoOk r c l ∧ areT l bits = true
instance (r c : Int) (l : List S71) (bits : List Int) : Decidable (ChoOk r c l bits) := by unfold ChoOk; infer_instance
theorem ChoOk.len {r c : Int} {l : List S71} {bits : List Int} (h : ChoOk r c l bits) : 1 ≤ bits.length ∧ bits.length ≤ 5 := by
  have := h.2
  simp only [areT, Bool.and_eq_true, decide_eq_true_eq] at this
  exact this.1
theorem ChoOk.mem {r c : Int} {l : List S71} {bits : List Int} (h : ChoOk r c l bits) : ∀ x ∈ bits, 0 ≤ x ∧ x < l.length := by
  have := h.2
  simp only [areT, Bool.and_eq_true] at this
  exact goT_mem this.2
def turnIdx : Int → List S71 → List Int
  | _, [] => []
  | i, y :: l => if y.f0 = 3 ∨ y.f0 = 6 then i :: turnIdx (i + 1) l else turnIdx (i + 1) l
theorem turnIdx_mem : ∀ (l : List S71) (i x : Int), x ∈ turnIdx i l ↔ i ≤ x ∧ x < i + l.length ∧ ((l.getD (x - i).toNat z71).f0 = 3 ∨ (l.getD (x - i).toNat z71).f0 = 6) := by
  intro l
  induction l with
  | nil => intro i x; simp [turnIdx]; omega
  | cons y l ih =>
    intro i x
    have hcase : x = i ∨ x ≠ i := by omega
    by_cases hx : x = i
    · subst hx
      have e : (x - x).toNat = 0 := by omega
      rw [e]
      simp only [turnIdx, List.getD_cons_zero]
      by_cases h : y.f0 = 3 ∨ y.f0 = 6
      · rw [if_pos h]
        exact ⟨fun _ => ⟨by omega, by simp; omega, h⟩, fun _ => List.mem_cons_self⟩
      · rw [if_neg h, ih]
        exact ⟨fun h2 => by omega, fun h2 => absurd h2.2.2 h⟩
    · have key : x ∈ turnIdx i (y :: l) ↔ x ∈ turnIdx (i + 1) l := by
        simp only [turnIdx]
        by_cases h : y.f0 = 3 ∨ y.f0 = 6
        · rw [if_pos h, List.mem_cons]; exact ⟨fun h2 => h2.resolve_left hx, Or.inr⟩
        · rw [if_neg h]
      rw [key, ih]
      by_cases hlt : i < x
      · have e : (x - i).toNat = (x - (i + 1)).toNat + 1 := by omega
        rw [e, List.getD_cons_succ]
        simp only [List.length_cons]
        constructor
        · rintro ⟨a, b, c⟩; exact ⟨by omega, by omega, c⟩
        · rintro ⟨a, b, c⟩; exact ⟨by omega, by omega, c⟩
      · constructor
        · rintro ⟨a, b, c⟩; omega
        · rintro ⟨a, b, c⟩; omega
theorem boTurning_loop (l : List S71) (hm : l.length ≤ 1000) : ∀ (suf pre : List S71) (acc : List Int), l = pre ++ suf → acc.length ≤ pre.length →
    Ev (fun k => spec_boTurning.l0 k acc l (l.length : Int) (pre.length : Int)) (acc ++ turnIdx pre.length suf) := by
  have hmx : l.length ≤ maxLen := by simp only [maxLen]; omega
  intro suf
  induction suf with
  | nil =>
    intro pre acc hl ha
    subst hl
    exact Ev.step (fun k => spec_boTurning.l0.eq_2 ..) (ev_neg (not_lt_end _) (ev_const (by simp [turnIdx])))
  | cons y suf ih =>
    intro pre acc hl ha
    subst hl
    have hlen := hm
    simp only [List.length_append, List.length_cons] at hlen
    refine Ev.step (fun k => spec_boTurning.l0.eq_2 ..) (ev_pos (lt_mid _ _ _) (ev_pos (by omega) (ev_pos (lt_mid _ _ _) ?_)))
    simp only [rdc_mid, paTurning, Option.bind_some, decide_eq_true_eq, turnIdx]
    rw [next_mid _ _ _ hmx]
    by_cases h : y.f0 = 3 ∨ y.f0 = 6
    · refine ev_pos h (ev_pos (by omega) ?_)
      have := ih (pre ++ [y]) (acc ++ [(pre.length : Int)]) (assoc_mid _ _ _) (by simp; omega)
      rw [if_pos h]
      simpa using this
    · refine ev_neg h ?_
      have := ih (pre ++ [y]) acc (assoc_mid _ _ _) (by simp; omega)
      rw [if_neg h]
      simpa using this
theorem boTurning (r c : Int) (l : List S71) (hm : l.length ≤ 1000) : Ev (fun k => spec_boTurning.f k r c l) (turnIdx 0 l) := by
  unfold spec_boTurning.f
  exact boTurning_loop l hm l [] [] rfl (Nat.le_refl _)
theorem turnIdx_length : ∀ (l : List S71) (i : Int), (turnIdx i l).length ≤ l.length := by
  intro l
  induction l with
  | nil => intro i; simp [turnIdx]
  | cons y l ih =>
    intro i
    have := ih (i + 1)
    simp only [turnIdx]
    split <;> simp <;> omega
theorem goC_ev {r c : Int} {l : List S71} (h : BoOk r c l) : ∀ (rest pre : List Int), pre.length + rest.length ≤ 5 → Ev (fun k => goC k (turnIdx 0 l) pre rest) (goT l pre rest) := by
  have h90 := h.len
  have htl := turnIdx_length l 0
  intro rest
  induction rest with
  | nil => intro pre _; exact ev_const rfl
  | cons x rest ih =>
    intro pre hp
    simp only [List.length_cons] at hp
    simp only [goC, goT]
    refine ev_bind (l1Has (turnIdx 0 l) x (by simp only [maxLen]; omega)) ?_
    have hmem : x ∈ turnIdx 0 l ↔ (0 ≤ x ∧ x < (l.length : Int)) ∧ ((rd_T71 l x).f0 = 3 ∨ (rd_T71 l x).f0 = 6) := by
      rw [turnIdx_mem]
      simp only [Int.sub_zero, Int.zero_add, rd_T71]
      exact ⟨fun h2 => ⟨⟨h2.1, h2.2.1⟩, h2.2.2⟩, fun h2 => ⟨h2.1.1, h2.1.2, h2.2⟩⟩
    simp only [decide_eq_true_eq]
    by_cases hx : x ∈ turnIdx 0 l
    · obtain ⟨h1, h2⟩ := hmem.1 hx
      refine ev_pos hx (ev_bind (l1Has pre x (by simp only [maxLen]; omega)) ?_)
      rw [decide_eq_true h1, turnsI_eq h h1.1 h1.2, decide_eq_true h2]
      simp only [decide_eq_true_eq, Bool.true_and]
      by_cases h3 : x ∈ pre
      · refine ev_pos h3 (ev_const ?_)
        simp [h3]
      · refine ev_neg h3 ?_
        have := ih (pre ++ [x]) (by simp; omega)
        simpa [h3] using this
    · refine ev_neg hx (ev_const ?_)
      by_cases h1 : 0 ≤ x ∧ x < (l.length : Int)
      · rw [turnsI_eq h h1.1 h1.2, decide_eq_false (fun h2 => hx (hmem.2 ⟨h1, h2⟩))]
        simp
      · rw [decide_eq_false h1]; simp
theorem bcChosen (r c : Int) (l : List S71) (bits : List Int) (hm : l.length ≤ maxLen) : Ev (fun k => spec_bcChosen.f k r c l bits) (decide (ChoOk r c l bits)) := by
  unfold spec_bcChosen.f
  refine ev_bind (boGood r c l hm) ?_
  simp only [decide_eq_true_eq]
  by_cases h : BoOk r c l
  · refine ev_pos h ?_
    have hb : spec_bcBits.f (bits.length : Int) = some (decide (1 ≤ bits.length ∧ bits.length ≤ 5)) := by
      unfold spec_bcBits.f
      rw [in_f, Option.bind_some, Option.some.injEq, decide_eq_decide]
      omega
    refine ev_bindc hb ?_
    simp only [decide_eq_true_eq]
    by_cases h5 : 1 ≤ bits.length ∧ bits.length ≤ 5
    · refine ev_pos h5 (ev_bind (boTurning r c l (by have := h.len; omega)) ?_)
      have := goC_ev h bits [] (by simp; omega)
      rw [show decide (ChoOk r c l bits) = goT l [] bits from by
        rw [Bool.eq_iff_iff, decide_eq_true_eq]
        unfold ChoOk areT
        rw [decide_eq_true h5, Bool.true_and]
        simp [h]]
      exact this
    · refine ev_neg h5 (ev_const ?_)
      rw [decide_eq_false (fun h2 : ChoOk r c l bits => h5 h2.len)]
  · refine ev_neg h (ev_const ?_)
    rw [decide_eq_false (fun h2 : ChoOk r c l bits => h h2.1)]
end Go.Proofs.Ytcilbmbgdcepgaa.A
end

section
/- What the printed functions that write a value into chosen bits of a board come to. -/
namespace Go.Proofs.Ytcilbmbgdcepgaa.A
open Go.RowKit Go.Proofs.YtcilbmbgdcepgaaW.PrintWords Go.Proofs.YtcilbmbgdcepgaaW.PrintLast Go.Proofs.YtcilbmbgdcepgaaW.PrintMore Go.Proofs.Ytcilbmbgdcepgaa.P Go.Proofs.Ytcilbmbgdcepgaa.T
set_option linter.unusedVariables false
set_option linter.unusedSimpArgs false

def bitV (v : Int) (i : Int) : Int := Go.bits .and .i64 (shr .i64 v i) 1
/-- The cells with the bits of v from the i-th on as the states of the cells that a list names. -/
def withGo (v : Int) : Int → List Int → List S71 → List S71
  | _, [], l => l
  | i, x :: xs, l => withGo v (i + 1) xs (l.set x.toNat ⟨(rd_T71 l x).f0, bitV v i⟩)
theorem withGo_length (v : Int) : ∀ (xs : List Int) (i : Int) (l : List S71), (withGo v i xs l).length = l.length := by
  intro xs
  induction xs with
  | nil => intro i l; rfl
  | cons x xs ih => intro i l; simp [withGo, ih]
theorem shl5 {n : Nat} (h : 1 ≤ n ∧ n ≤ 5) : IntKind.u64.wrap (n : Int) = n ∧ 2 ≤ shl .i64 1 (n : Int) ∧ shl .i64 1 (n : Int) ≤ 32 := by
  have : n = 1 ∨ n = 2 ∨ n = 3 ∨ n = 4 ∨ n = 5 := by omega
  rcases this with rfl | rfl | rfl | rfl | rfl <;> decide
def WithOk (r c : Int) (l : List S71) (bits : List Int) (v : Int) : Prop := ChoOk r c l bits ∧ 0 ≤ v ∧ v < shl .i64 1 (bits.length : Int)
instance (r c : Int) (l : List S71) (bits : List Int) (v : Int) : Decidable (WithOk r c l bits v) := by unfold WithOk; infer_instance
def withB (r c : Int) (l : List S71) (bits : List Int) (v : Int) : Int × Int × List S71 × Bool := if WithOk r c l bits v then (r, c, withGo v 0 bits l, true) else (0, 0, [], false)
theorem withB_len (r c : Int) (l : List S71) (bits : List Int) (v : Int) : (withB r c l bits v).2.2.1.length ≤ 90 := by
  unfold withB
  split
  · rename_i h; rw [withGo_length]; exact h.1.1.len
  · simp
theorem bcWith_loop (r c v : Int) (bits : List Int) (hb : bits.length ≤ 5) (n : Nat) : ∀ (suf pre : List Int) (l : List S71), bits = pre ++ suf → l.length = n → (∀ x ∈ suf, 0 ≤ x ∧ x < (n : Int)) →
    Ev (fun k => spec_bcWith.l0 k v bits (bits.length : Int) (pre.length : Int) r c l) (r, c, withGo v pre.length suf l) := by
  intro suf
  induction suf with
  | nil =>
    intro pre l h1 h2 h3
    subst h1
    exact Ev.step (fun k => spec_bcWith.l0.eq_2 ..) (ev_neg (by simp) (ev_const rfl))
  | cons x suf ih =>
    intro pre l h1 h2 h3
    subst h1
    have hlt := lt_mid pre x suf
    have hx := h3 x List.mem_cons_self
    have hp : pre.length < 5 := by simp at hb; omega
    have ht : spec_ttBit.f v (pre.length : Int) = some (bitV v pre.length) := by
      unfold spec_ttBit.f bitV
      rw [u64b ⟨pre.length, hp⟩, if_pos (by simp)]
    refine Ev.step (fun k => spec_bcWith.l0.eq_2 ..) (ev_pos hlt (ev_pos (by omega) (ev_pos hlt (ev_bindc ht ?_))))
    rw [rd_mid, next_mid pre x suf (by simp only [maxLen]; omega)]
    refine ev_pos hx.1 (ev_pos (by rw [h2]; exact hx.2) ?_)
    have := ih (pre ++ [x]) (l.set x.toNat ⟨(rd_T71 l x).f0, bitV v pre.length⟩) (assoc_mid _ _ _) (by simpa using h2) (fun y hy => h3 y (List.mem_cons_of_mem _ hy))
    simpa [withGo] using this
theorem bcWith (r c v : Int) (bits : List Int) (l : List S71) (hb : bits.length ≤ 5) (hl : l.length ≤ 90) (hx : ∀ x ∈ bits, 0 ≤ x ∧ x < l.length) : Ev (fun k => spec_bcWith.f k r c l bits v) (r, c, withGo v 0 bits l) := by
  unfold spec_bcWith.f
  refine ev_bindc (a := (r, c, l)) ?_ (bcWith_loop r c v bits hb l.length bits [] l rfl rfl hx)
  unfold spec_boOwn.f
  rw [Option.bind_some, if_pos (by simp; omega)]; rfl
theorem withBits_loop (r c v : Int) (bits : List Int) (hb : bits.length ≤ 5) (n : Nat) : ∀ (suf pre : List Int) (l : List S71), bits = pre ++ suf → l.length = n → (∀ x ∈ suf, 0 ≤ x ∧ x < (n : Int)) →
    Ev (fun k => impl_withBits.l0 k v bits (bits.length : Int) (pre.length : Int) r c l) (r, c, withGo v pre.length suf l) := by
  intro suf
  induction suf with
  | nil =>
    intro pre l h1 h2 h3
    subst h1
    exact Ev.step (fun k => impl_withBits.l0.eq_2 ..) (ev_neg (by simp) (ev_const rfl))
  | cons x suf ih =>
    intro pre l h1 h2 h3
    subst h1
    have hlt := lt_mid pre x suf
    have hx := h3 x List.mem_cons_self
    refine Ev.step (fun k => impl_withBits.l0.eq_2 ..) (ev_pos hlt (ev_pos (by omega) (ev_pos hlt ?_)))
    rw [rd_mid, next_mid pre x suf (by simp only [maxLen]; omega)]
    refine ev_pos hx.1 (ev_pos (by rw [h2]; exact hx.2) ?_)
    have := ih (pre ++ [x]) (l.set x.toNat ⟨(rd_T71 l x).f0, bitV v pre.length⟩) (assoc_mid _ _ _) (by simpa using h2) (fun y hy => h3 y (List.mem_cons_of_mem _ hy))
    simpa [withGo, bitV] using this
theorem withBits (r c v : Int) (bits : List Int) (l : List S71) (hb : bits.length ≤ 5) (hl : l.length ≤ 90) (hx : ∀ x ∈ bits, 0 ≤ x ∧ x < l.length) : Ev (fun k => impl_withBits.f k r c l bits v) (r, c, withGo v 0 bits l) := by
  unfold impl_withBits.f
  refine ev_bindc (a := (r, c, l)) ?_ (withBits_loop r c v bits hb l.length bits [] l rfl rfl hx)
  unfold impl_copyBoard.f
  rw [Option.bind_some, if_pos (by simp; omega)]; rfl
theorem specWith (r c : Int) (l : List S71) (bits : List Int) (v : Int) (hm : l.length ≤ maxLen) : Ev (fun k => spec_WithBitsValue.f k r c l bits v) (withB r c l bits v) := by
  unfold spec_WithBitsValue.f withB
  refine ev_bind (bcChosen r c l bits hm) ?_
  simp only [decide_eq_true_eq]
  by_cases h : ChoOk r c l bits
  rotate_left
  · rw [if_neg (fun h2 : WithOk r c l bits v => h h2.1)]; exact ev_neg h (ev_const rfl)
  obtain ⟨u, a, b⟩ := shl5 h.len
  rw [u, wrap_id (x := shl .i64 1 (bits.length : Int) - 1) (by omega) (by omega)]
  refine ev_pos h (ev_pos (by omega) (ev_bindc (in_f _ _ _) ?_))
  simp only [decide_eq_true_eq]
  by_cases h2 : 0 ≤ v ∧ v ≤ shl .i64 1 (bits.length : Int) - 1
  · rw [if_pos (show WithOk r c l bits v from ⟨h, h2.1, by omega⟩)]
    exact ev_pos h2 (ev_bind (bcWith r c v bits l h.len.2 h.1.len h.mem) (ev_const rfl))
  · rw [if_neg (fun h3 : WithOk r c l bits v => h2 ⟨h3.2.1, by have := h3.2.2; omega⟩)]
    exact ev_neg h2 (ev_const rfl)
theorem implWith (r c : Int) (l : List S71) (bits : List Int) (v : Int) (hm : l.length ≤ maxLen) : Ev (fun k => impl_WithBitsValue.f k r c l bits v) (withB r c l bits v) := by
  unfold impl_WithBitsValue.f withB
  refine ev_bind (isBoard r c l hm) ?_
  simp only [decide_eq_true_eq]
  by_cases h0 : BoOk r c l
  rotate_left
  · rw [if_neg (fun h2 : WithOk r c l bits v => h0 h2.1.1)]; exact ev_neg h0 (ev_const rfl)
  refine ev_pos h0 (ev_bind (ev_const rfl : Ev (fun k => impl_areTurning.f k r c l bits) (areT l bits)) ?_)
  by_cases h1 : areT l bits = true
  rotate_left
  · rw [if_neg (fun h2 : WithOk r c l bits v => h1 h2.1.2)]; exact ev_neg h1 (ev_const rfl)
  have h : ChoOk r c l bits := ⟨h0, h1⟩
  refine ev_pos h1 ?_
  by_cases h2 : v < 0
  · rw [if_neg (fun h3 : WithOk r c l bits v => by have := h3.2.1; omega)]; exact ev_pos h2 (ev_const rfl)
  refine ev_neg h2 ?_
  by_cases h3 : v ≥ shl .i64 1 (bits.length : Int)
  · rw [if_neg (fun h4 : WithOk r c l bits v => by have := h4.2.2; omega)]; exact ev_pos h3 (ev_const rfl)
  rw [if_pos (show WithOk r c l bits v from ⟨h, by omega, by omega⟩)]
  exact ev_neg h3 (ev_bind (withBits r c v bits l h.len.2 h.1.len h.mem) (ev_const rfl))
end Go.Proofs.Ytcilbmbgdcepgaa.A
end

section
/- WithBitsValue: the program returns what the reference returns, for all boards, lists and values. -/
namespace Go.Proofs.Ytcilbmbgdcepgaa.A
open Go.RowKit Go.Proofs.YtcilbmbgdcepgaaW.PrintWords Go.Proofs.YtcilbmbgdcepgaaW.PrintLast Go.Proofs.YtcilbmbgdcepgaaW.PrintMore Go.Proofs.Ytcilbmbgdcepgaa.P Go.Proofs.Ytcilbmbgdcepgaa.T Go.Proofs.Ytcilbmbgdcepgaa.Op
set_option linter.unusedVariables false

theorem lawWithBitsValue : fnExactWithBitsValue.Pure := by
  intro r c l xs v hr hc hl hxs hv
  refine Ev.rounds ?_
  unfold lw.f
  by_cases hxl : (xs.length : Int) > 1048576
  · exact ev_pos hxl (ev_const rfl)
  refine ev_neg hxl (ev_bindc (szBo r c l 1048576 (by omega) hl.1) ?_)
  by_cases h : (1048576 : Int) - (l.length : Int) < 0
  · rw [if_pos h]; exact ev_const rfl
  have hlen : l.length ≤ 1048576 := by omega
  have hml : (l.map cpC).length ≤ maxLen := by simp [maxLen]; omega
  have hto := toBo r c l hlen
  have htb := toInts xs (by omega)
  have hs := specWith r c (l.map cpC) xs v hml
  have hi := implWith r c (l.map cpC) xs v hml
  have hr := withB_len r c (l.map cpC) xs v
  have hm : (withB r c (l.map cpC) xs v).2.2.1.length ≤ maxLen := by simp only [maxLen]; omega
  rw [if_neg h]
  refine ev_neg h (ev_bind hto (ev_bind htb (ev_bind hs (ev_bind hto (ev_bind htb (ev_bind hi (ev_bind (eqBo _ _ _ hm) (ev_pos rfl (Ev.step (fun k => lw.j0.eq_2 ..) (ev_neg (by simp) ?_)))))))))) 
  have hml2 : (l.map cpC).length = l.length := by simp
  refine ev_bind hto (ev_bind (eqBo _ _ _ hml) (ev_pos rfl (ev_bind htb (ev_bind (eqInts xs hxs.1) (ev_pos rfl (ev_bind (markBo r c (l.map cpC) 1 hml (by omega) (by rw [hml2]; omega)) (ev_bind (markInts xs _ hxs.1 (by simp only [hml2]; omega) (by simp only [hml2]; omega)) (ev_neg (by simp only [hml2]; omega) (ev_bind (eqBo _ _ _ hm) (ev_pos rfl (Ev.step (fun k => lw.j1.eq_2 ..) (ev_neg (by simp) ?_))))))))))))
  refine ev_bind (markBo _ _ _ 1 hm (by omega) (by omega)) (ev_bind (heldBo _ _ _ 1 hm (by omega) (by omega)) (ev_neg (by simp; omega) (ev_pos rfl (ev_bind hto (ev_bind htb (ev_bind hi (ev_bind (eqBo _ _ _ hm) (ev_pos rfl (Ev.step (fun k => lw.j2.eq_2 ..) (ev_neg (by simp) ?_))))))))))
  exact ev_bind (heldBo _ _ _ 1 hm (by omega) (by omega)) (ev_neg (by simp; omega) (ev_pos rfl (ev_const rfl)))
end Go.Proofs.Ytcilbmbgdcepgaa.A
namespace Go.Proofs.Ytcilbmbgdcepgaa
/-- The row. -/
theorem fnExactWithBitsValue_holds : Rows.FnExactWithBitsValueSaid := fnExactWithBitsValue.over A.lawWithBitsValue
end Go.Proofs.Ytcilbmbgdcepgaa
end
