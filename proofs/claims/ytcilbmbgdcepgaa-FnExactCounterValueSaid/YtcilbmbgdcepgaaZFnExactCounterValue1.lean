/- FnExactCounterValue: texts of this claim in one: Op, RowFnExactCounterValue, T, ABase, ABo, ABc, ABv, LawCounterValue. -/
import Derived.Deep.Slices
import Derived.ChangeSame
import Derived.ChangeArms
import Derived.Test.YtcilbmbgdcepgaaWWords
import Derived.Test.YtcilbmbgdcepgaaRows
import Derived.Test.YtcilbmbgdcepgaaYFnExactCounterValuePx42
import Derived.WalkKit
import Derived.ProofKit
import Derived.OpenShut
import Derived.ShutString
import Derived.ChangeOld
import Derived.Below
import Derived.SizedLaws
import Derived.Test.YtcilbmbgdcepgaaWMore
import Derived.Test.YtcilbmbgdcepgaaYFnExactCounterValuePx2
import Derived.Test.YtcilbmbgdcepgaaYFnExactCounterValuePx48
import Derived.Test.YtcilbmbgdcepgaaYFnExactCounterValuePx53
import Derived.Test.YtcilbmbgdcepgaaYFnExactCounterValuePx61
import Derived.Test.YtcilbmbgdcepgaaYFnExactCounterValuePx97
import Derived.Test.YtcilbmbgdcepgaaYFnExactCounterValuePx63
import Derived.Test.YtcilbmbgdcepgaaYFnExactCounterValuePx43
import Derived.Test.YtcilbmbgdcepgaaYFnExactCounterValuePx35
import Derived.Test.YtcilbmbgdcepgaaYFnExactCounterValuePx36
import Derived.Test.YtcilbmbgdcepgaaZFnExactCounterValue0
import Derived.Test.YtcilbmbgdcepgaaYFnExactCounterValuePx24
import Derived.Test.YtcilbmbgdcepgaaYFnExactCounterValuePx25
import Derived.Test.YtcilbmbgdcepgaaYFnExactCounterValuePx26
import Derived.Test.YtcilbmbgdcepgaaYFnExactCounterValuePx27
import Derived.Test.YtcilbmbgdcepgaaYFnExactCounterValuePx5
import Derived.Test.YtcilbmbgdcepgaaYFnExactCounterValuePx6
import Derived.Test.YtcilbmbgdcepgaaYFnExactCounterValuePx16
import Derived.Test.YtcilbmbgdcepgaaYFnExactCounterValuePx7
import Derived.Test.YtcilbmbgdcepgaaYFnExactCounterValuePx17
import Derived.Test.YtcilbmbgdcepgaaYFnExactCounterValuePx18
import Derived.Test.YtcilbmbgdcepgaaYFnExactCounterValuePx4
import Derived.Test.YtcilbmbgdcepgaaYFnExactCounterValuePx3
import Derived.Test.YtcilbmbgdcepgaaYFnExactCounterValuePx14
import Derived.Test.YtcilbmbgdcepgaaYFnExactCounterValuePx12
import Derived.Test.YtcilbmbgdcepgaaYFnExactCounterValuePx15
import Derived.Test.YtcilbmbgdcepgaaYFnExactCounterValuePx31
import Derived.Test.YtcilbmbgdcepgaaYFnExactCounterValuePx37
import Derived.Test.YtcilbmbgdcepgaaYFnExactCounterValuePx32
import Derived.Test.YtcilbmbgdcepgaaYFnExactCounterValuePx38
section
/- Opens an argument that a row reads as data into the cells and lists that a contract speaks of: whole numbers, slices, structs of two and three fields. -/
namespace Go.Proofs.Ytcilbmbgdcepgaa.Op
open Go.ChangeShapes Go.WideShapes Go.Deep Go.RowKit Go.Proofs.YtcilbmbgdcepgaaW.PrintWords
set_option linter.unusedVariables false

/-- What reads as data of type t is of kind d, and meets wf. -/
def Opens (P : Program) (t : TypeId) {α : Type} (d : Kd α) (wf : α → Prop) : Prop :=
  ∀ {H : Type} {enc : TypeId × Value → H} {w : World} {base : Nat} {spare : Nat → Bool} {held : Bool} {fuel : Nat} {cs : List Value} {x : DataW H × List MemPlace},
    DataW.trod enc P w base spare held fuel t cs = some x → ∃ a, d.K w a cs ∧ wf a

def WNum (k : IntKind) (n : Int) : Prop := (Lit.int k n).wf = true
abbrev WInt : Int → Prop := WNum .i64
def WList {α : Type} (wf : α → Prop) (l : List α) : Prop := l.length ≤ maxLen ∧ ∀ a ∈ l, wf a

theorem opens_int {P : Program} {t : TypeId} {k : IntKind} (h : P.underlying t = some (.int k)) : Opens P t (Kd.int k) (WNum k) := by
  intro H enc w base spare held fuel cs x ht
  obtain ⟨n, rfl, _, hw⟩ := DataW.trod_int h ht
  exact ⟨n, rfl, hw⟩

theorem opens_slice {P : Program} {t e : TypeId} {α : Type} {d : Kd α} {wf : α → Prop} (q : Nat) (h : P.underlying t = some (.slice e)) (hc : P.cellsOf e = d.sz) (o : Opens P e d wf) :
    Opens P t (Kd.slice q d) (WList wf) := by
  intro H enc w base spare held fuel cs x ht
  rcases open_slice h ht with ⟨rfl, _⟩ | ⟨a, len, cap, m, n, D, Pl, rfl, hb, hl, hm, hmm, hx, hi⟩
  · exact ⟨[], ⟨none, 0, rfl, Nat.le_refl _, rfl, by simp, fun hn => by simp at hn⟩, by simp [WList]⟩
  · have hlm : len ≤ m := by rw [hmm]; split <;> omega
    have each : ∀ i, i < len → ∃ y cs', w.cells? base (a.add (i * d.sz)) d.sz = some cs' ∧ d.K w y cs' ∧ wf y := by
      intro i hil
      obtain ⟨cs', h1, h2⟩ := hi i (by omega)
      obtain ⟨y, hk, hw⟩ := o h2
      rw [hc] at h1
      exact ⟨y, cs', h1, hk, hw⟩
    have build : ∀ k, k ≤ len → ∃ ys : List α, ys.length = k ∧ (∀ y ∈ ys, wf y) ∧ ∀ j y, ys[j]? = some y → ∃ c, c.length = d.sz ∧ d.K w y c ∧ ∀ i u, c[i]? = some u → w.cell? (a.add (j * d.sz + i)) = some u := by
      intro k
      induction k with
      | zero => exact fun _ => ⟨[], rfl, by simp, by simp⟩
      | succ k ih =>
        intro hk
        obtain ⟨ys, hlen, hwf, hys⟩ := ih (by omega)
        obtain ⟨y, cs', h1, h2, h3⟩ := each k (by omega)
        obtain ⟨_, hcl, hat⟩ := World.cells?_some h1
        refine ⟨ys ++ [y], by simp [hlen], ?_, ?_⟩
        · intro z hz
          rcases List.mem_append.1 hz with hz | hz
          · exact hwf z hz
          · rw [List.mem_singleton.1 hz]; exact h3
        · intro j z hj
          by_cases hjk : j < k
          · rw [List.getElem?_append_left (by omega)] at hj
            exact hys j z hj
          · have hjl : j < (ys ++ [y]).length := (List.getElem?_eq_some_iff.1 hj).1
            simp only [List.length_append, List.length_singleton, hlen] at hjl
            obtain rfl : j = k := by omega
            rw [List.getElem?_append_right (by omega), hlen, Nat.sub_self] at hj
            obtain rfl : y = z := by simpa using hj
            refine ⟨cs', hcl, h2, fun i u hu => ?_⟩
            have hil : i < d.sz := by
              have := (List.getElem?_eq_some_iff.1 hu).1
              omega
            have := hat i hil
            rw [Go.Deep.add_add] at this
            rw [this, hu]
    obtain ⟨ys, hlen, hwf, hys⟩ := build len (Nat.le_refl _)
    have hmx : len ≤ maxLen := by omega
    exact ⟨ys, ⟨some a, cap, by rw [hlen], by rw [hlen]; exact hl, rfl, by rw [hlen]; exact hmx, fun _ => ⟨a, rfl, hys⟩⟩, by rw [hlen]; exact hmx, hwf⟩

theorem opens_iso {P : Program} {t : TypeId} {α β : Type} {d : Kd α} {wf : α → Prop} (f : β → α) (g : α → β) (hg : ∀ a, f (g a) = a) (o : Opens P t d wf) : Opens P t (Kd.iso d f) (fun b => wf (f b)) := by
  intro H enc w base spare held fuel cs x ht
  obtain ⟨a, h1, h2⟩ := o ht
  exact ⟨g a, by show d.K w (f (g a)) cs; rw [hg]; exact h1, by show wf (f (g a)); rw [hg]; exact h2⟩

theorem opens_two {P : Program} {t : TypeId} {f0 f1 : Field} {α β : Type} {a : Kd α} {b : Kd β} {wa : α → Prop} {wb : β → Prop}
    (h : P.underlying t = some (.struct #[f0, f1])) (hc : P.cellsOf t = a.sz + b.sz) (o0 : f0.offset = 0) (o1 : f1.offset = a.sz) (c0 : P.cellsOf f0.type = a.sz) (c1 : P.cellsOf f1.type = b.sz)
    (oa : Opens P f0.type a wa) (ob : Opens P f1.type b wb) : Opens P t (Kd.pair a b) (fun x => wa x.1 ∧ wb x.2) := by
  intro H enc w base spare held fuel cs x ht
  obtain ⟨xs, n, _, _, hlen, hxl, hf⟩ := DataW.trod_struct h ht
  have hx2 : xs.length = 2 := hxl
  have h0 := hf 0 f0 rfl
  have h1 := hf 1 f1 rfl
  rw [List.getElem?_eq_getElem (by omega)] at h0 h1
  obtain ⟨y0, k0, w0⟩ := oa h0
  obtain ⟨y1, k1, w1⟩ := ob h1
  refine ⟨(y0, y1), ⟨_, _, ?_, k0, k1⟩, w0, w1⟩
  rw [hc] at hlen
  rw [o0, o1, c0, c1, List.drop_zero]
  rw [List.take_of_length_le (l := cs.drop a.sz) (by simp; omega), List.take_append_drop]

theorem opens_three {P : Program} {t : TypeId} {f0 f1 f2 : Field} {α β γ : Type} {a : Kd α} {b : Kd β} {c : Kd γ} {wa : α → Prop} {wb : β → Prop} {wc : γ → Prop}
    (h : P.underlying t = some (.struct #[f0, f1, f2])) (hc : P.cellsOf t = a.sz + (b.sz + c.sz)) (o0 : f0.offset = 0) (o1 : f1.offset = a.sz) (o2 : f2.offset = a.sz + b.sz) (c0 : P.cellsOf f0.type = a.sz) (c1 : P.cellsOf f1.type = b.sz) (c2 : P.cellsOf f2.type = c.sz)
    (oa : Opens P f0.type a wa) (ob : Opens P f1.type b wb) (oc : Opens P f2.type c wc) : Opens P t (Kd.pair a (Kd.pair b c)) (fun x => wa x.1 ∧ wb x.2.1 ∧ wc x.2.2) := by
  intro H enc w base spare held fuel cs x ht
  obtain ⟨xs, n, _, _, hlen, hxl, hf⟩ := DataW.trod_struct h ht
  have hx2 : xs.length = 3 := hxl
  have h0 := hf 0 f0 rfl
  have h1 := hf 1 f1 rfl
  have h2 := hf 2 f2 rfl
  rw [List.getElem?_eq_getElem (by omega)] at h0 h1 h2
  obtain ⟨y0, k0, w0⟩ := oa h0
  obtain ⟨y1, k1, w1⟩ := ob h1
  obtain ⟨y2, k2, w2⟩ := oc h2
  rw [hc] at hlen
  refine ⟨(y0, y1, y2), ⟨_, cs.drop a.sz, ?_, k0, ⟨_, _, ?_, k1, k2⟩⟩, w0, w1, w2⟩
  · rw [o0, c0, List.drop_zero, List.take_append_drop]
  · rw [o1, o2, c1, c2]
    rw [List.take_of_length_le (l := cs.drop (a.sz + b.sz)) (by simp; omega), ← List.drop_drop, List.take_append_drop]

/-- A slice among the arguments. -/
theorem open_arg_slice {P : Program} {t : TypeId} {α : Type} {d : Kd α} {wf : α → Prop} {q : Nat} (o : Opens P t (Kd.slice q d) (WList wf)) {H : Type} {enc : TypeId × Value → H} {w : World} {base : Nat} {spare : Nat → Bool} {held : Bool}
    {A : Option Addr} {len cap : Nat} {D : DataW H} {ps : List MemPlace} (h : DataW.Trod enc P w base spare held t (.slice A len cap) D ps) :
    ∃ l : List α, len = l.length ∧ l.length ≤ cap ∧ d.C w A l.length l ∧ WList wf l := by
  obtain ⟨fuel, hf⟩ := h
  obtain ⟨l, ⟨A', c, he, hl, hC⟩, hw⟩ := o hf
  simp only [Value.cells, List.cons.injEq, Value.slice.injEq, and_true] at he
  obtain ⟨rfl, rfl, rfl⟩ := he
  exact ⟨l, rfl, hl, hC, hw⟩
end Go.Proofs.Ytcilbmbgdcepgaa.Op
end

section
/- FnExactCounterValue: the program and the reference agree for all arguments: the row over the pure statement. -/
namespace Go.Proofs.Ytcilbmbgdcepgaa.fnExactCounterValue
open Go.ChangeShapes Go.WideShapes Go.ChangeAt Go.RowKit
open Go.ChangeMaps (open_string shut_string)
open Go.Proofs.Ytcilbmbgdcepgaa.Op
set_option linter.unusedVariables false
def Pure : Prop := ∀ (a0_0 : Int) (a0_1 : Int) (l0_2 : (List P.S96)), (WNum .i64) a0_0 → (WNum .i64) a0_1 → (WList (fun x : P.S96 => (WNum .i64) x.f0 ∧ (WNum .i64) x.f1)) l0_2 → ∃ k, P.laws_FnExactCounterValue.f k a0_0 a0_1 l0_2 = some true
theorem own : ownKnob Try.prog.godebug = none := by kernel_rfl
theorem laidOut : laidOutB Try.prog = true := by kernel_rfl
theorem ty3 : Opens Try.prog 3 (Go.Proofs.YtcilbmbgdcepgaaW.PrintWords.Kd.int .i64) (WNum .i64) := opens_int Try.underlying3
theorem ty96 : Opens Try.prog 96 P.k96 (fun x : P.S96 => (WNum .i64) x.f0 ∧ (WNum .i64) x.f1) := opens_iso (fun x : P.S96 => (x.f0, x.f1)) (fun a => ⟨a.1, a.2⟩) (fun _ => rfl) (opens_two Try.underlying96 (by kernel_rfl) (by kernel_rfl) (by kernel_rfl) (by kernel_rfl) (by kernel_rfl) ty3 ty3)
theorem ty30 : Opens Try.prog 30 (Go.Proofs.YtcilbmbgdcepgaaW.PrintWords.Kd.slice 96 P.k96) (WList (fun x : P.S96 => (WNum .i64) x.f0 ∧ (WNum .i64) x.f1)) := opens_slice 96 Try.underlying30 (by kernel_rfl) ty96
theorem tw32 : Opens Try.prog 32 (Go.Proofs.YtcilbmbgdcepgaaW.PrintWords.Kd.pair (Go.Proofs.YtcilbmbgdcepgaaW.PrintWords.Kd.int .i64) (Go.Proofs.YtcilbmbgdcepgaaW.PrintWords.Kd.pair (Go.Proofs.YtcilbmbgdcepgaaW.PrintWords.Kd.int .i64) (Go.Proofs.YtcilbmbgdcepgaaW.PrintWords.Kd.slice 96 P.k96))) (fun x : Int × Int × (List P.S96) => (WNum .i64) x.1 ∧ (WNum .i64) x.2.1 ∧ (WList (fun x : P.S96 => (WNum .i64) x.f0 ∧ (WNum .i64) x.f1)) x.2.2) := opens_three Try.underlying32 (by kernel_rfl) (by kernel_rfl) (by kernel_rfl) (by kernel_rfl) (by kernel_rfl) (by kernel_rfl) (by kernel_rfl) ty3 ty3 ty30
set_option maxRecDepth 100000 in
theorem lifted (pure : Pure) (os : Os) (started : os.Started) (H : Type) (enc : TypeId × Value → H) :
    ReturnsInHanded {} Try.checked os 5 .any (Rows.fnExactCounterValueSpec.pre6 enc Try.prog Try.f5 Rows.fnExactCounterValueRow.domain false) (Rows.fnExactCounterValueSpec.post enc Try.prog Try.f5 false true false false) := by
  refine returnsInHanded_of_change_sized (C := Try.checked) own started (by kernel_rfl) Try.func5
    (ChangeSpec.witness6 (enc := enc) (C := Try.checked) false ⟨#[], #[.agg #[.int .i64 0, .int .i64 0, .slice none 0 0]], []⟩ 8 (by kernel_rfl) (by kernel_rfl) (by kernel_rfl) (by kernel_rfl)) ?_
  intro W base args ds gs before hval0 hW hcnd hsz0 _
  have hsz : (DataW.weightsEach Try.prog (Try.f5.params.toList ++ Rows.fnExactCounterValueSpec.plain.varTypes Try.prog) (ds ++ gs)).all (· ≤ reachBytes) = true := hsz0
  have hval : ∀ (j : Nat) t v, Try.f5.params[j]? = some t → args[j]? = some v → Value.okWide Try.prog W .any base t v := hval0
  have hW' := hW
  obtain ⟨p, q, hA0, hV, rfl, hfz, hnd⟩ := hW
  have hA : DataW.TrodAll enc Try.prog W 0 (fun _ => true) true Try.f5.params.toList args.toList ds p := hA0
  rw [Try.params5] at hA hval hsz
  obtain ⟨v0, vs0, d0, ds0, p0, q0, hargs, rfl, rfl, h0, r0⟩ := trodAll_cons hA
  obtain ⟨rfl, rfl, rfl⟩ := trodAll_nil r0
  obtain rfl : args = #[v0] := by cases args; simp_all
  obtain ⟨rfl, rfl⟩ := trodVars_none hV
  have k0 := h0
  have lt0 : ∀ x ∈ p0, x.block < W.heap.size := by obtain ⟨m, hm⟩ := k0; exact DataW.trod_lt m _ _ _ hm
  obtain ⟨cs0, rfl, _⟩ := okWide_struct Try.underlying32 (hval 0 32 v0 rfl rfl)
  obtain ⟨csl0⟩ := cs0
  obtain ⟨fu0, hf0⟩ := h0
  obtain ⟨⟨a0_0, a0_1, l0_2⟩, ⟨x0_0, xr0, ex0, e0_0, ⟨x0_1, x0_2, er0, e0_1, ⟨A0_2, c0_2, e0_2, hc0_2, hC0_2⟩⟩⟩, ⟨w0_0, w0_1, w0_2⟩⟩ := tw32 hf0
  replace e0_0 : x0_0 = [Value.int .i64 a0_0] := e0_0
  replace e0_1 : x0_1 = [Value.int .i64 a0_1] := e0_1
  replace e0_2 : x0_2 = [Value.slice A0_2 l0_2.length c0_2] := e0_2
  replace hc0_2 : l0_2.length ≤ c0_2 := hc0_2
  replace hC0_2 : Go.Proofs.YtcilbmbgdcepgaaW.PrintWords.Kd.C P.k96 W A0_2 l0_2.length l0_2 := hC0_2
  replace w0_0 : (WNum .i64) a0_0 := w0_0
  replace w0_1 : (WNum .i64) a0_1 := w0_1
  replace w0_2 : (WList (fun x : P.S96 => (WNum .i64) x.f0 ∧ (WNum .i64) x.f1)) l0_2 := w0_2
  subst e0_1 e0_2 er0 e0_0 ex0
  clear hA0 hval0 hsz0 hsz
  obtain ⟨k, hk⟩ := pure a0_0 a0_1 l0_2 w0_0 w0_1 w0_2
  refine (P.laws_FnExactCounterValue.calls k a0_0 a0_1 _ _ l0_2 true W hC0_2 hc0_2 hk).mono fun e W' ⟨he, bel⟩ => ?_
  subst he
  exact ⟨_, rfl, _, _, _, [], _, [], hW', trodAll_mk1 (shut_bool Try.underlying4 _), (trodAll_cons_mk (Below.trod laidOut (by kernel_rfl) (of_decide_eq_true (by kernel_rfl)) k0 bel lt0) trodAll_mk0), rfl, bel.frame _, fun h => by cases h⟩
theorem over (pure : Pure) : Rows.fnExactCounterValueRow.holds Try.pinned (OpenSpec.ofChange Rows.fnExactCounterValueSpec) :=
  OpenClaim.holds_of_wide 5 Try.f5 rfl rfl rfl rfl rfl rfl rfl ⟨rfl, rfl, rfl, rfl, rfl⟩ rfl rfl rfl rfl rfl (by kernel_rfl) Try.func5 (by kernel_rfl)
    (of_decide_eq_true (by kernel_rfl)) (by unfold Func.isWrapper; first | (rw [if_pos (by decide +kernel)]; kernel_rfl) | (rw [if_neg (by decide +kernel)]; exact ⟨rfl, rfl⟩))
    (fun os started H enc _ => lifted pure os started H enc)
end Go.Proofs.Ytcilbmbgdcepgaa.fnExactCounterValue
end

section
/- Small laws on rounds, wrapped sums and reading of lists, for the plain laws of this seat. -/
namespace Go.Proofs.Ytcilbmbgdcepgaa.T
open Go.RowKit Go.Proofs.YtcilbmbgdcepgaaW.PrintWords Go.Proofs.YtcilbmbgdcepgaaW.PrintLast Go.Proofs.YtcilbmbgdcepgaaW.PrintMore
set_option linter.unusedVariables false

theorem wrap_id {x : Int} (h1 : -9223372036854775808 ≤ x) (h2 : x ≤ 9223372036854775807) : wrap64 x = x := by
  unfold wrap64; omega
theorem wf_lo {n : Int} (h : (Lit.int .i64 n).wf = true) : -9223372036854775808 ≤ n ∧ n ≤ 9223372036854775807 := by
  simp [Lit.wf, IntKind.min, IntKind.max, IntKind.signed, IntKind.bits] at h
  omega

theorem ev_some {α : Type} (r : α) : Ev (fun _ => some r) r := Ev.now r
/-- Rounds that are not used. -/
theorem ev_const {α : Type} {g : Option α} {r : α} (h : g = some r) : Ev (fun _ => g) r := by
  subst h; exact Ev.now r
theorem ev_bind {α β : Type} {g : Nat → Option α} {f : Nat → α → Option β} {a : α} {r : β} (h : Ev g a) (k : Ev (fun n => f n a) r) : Ev (fun n => (g n).bind (f n)) r := Ev.bind h k
theorem ev_bindc {α β : Type} {g : Option α} {f : Nat → α → Option β} {a : α} {r : β} (h : g = some a) (k : Ev (fun n => f n a) r) : Ev (fun n => g.bind (f n)) r := by
  subst h; exact k
theorem ev_pos {α : Type} {c : Prop} [Decidable c] {g f : Nat → Option α} {r : α} (h : c) (k : Ev g r) : Ev (fun n => if c then g n else f n) r := by
  simp only [if_pos h]; exact k
theorem ev_neg {α : Type} {c : Prop} [Decidable c] {g f : Nat → Option α} {r : α} (h : ¬ c) (k : Ev f r) : Ev (fun n => if c then g n else f n) r := by
  simp only [if_neg h]; exact k
theorem ev_ite {α : Type} {c : Prop} [Decidable c] {g f : Nat → Option α} {a b : α} (h : c → Ev g a) (k : ¬ c → Ev f b) : Ev (fun n => if c then g n else f n) (if c then a else b) := by
  by_cases hc : c
  · simp only [if_pos hc]; exact h hc
  · simp only [if_neg hc]; exact k hc
theorem ev_uniq {α : Type} {g : Nat → Option α} {a b : α} (h : Ev g a) (k : Ev g b) : a = b := by
  obtain ⟨K, h⟩ := h; obtain ⟨L, k⟩ := k
  have h1 := h (K + L) (by omega); have h2 := k (K + L) (by omega)
  rw [h1] at h2; exact Option.some.inj h2

theorem toNat_len {α : Type} (pre : List α) : ((pre.length : Int)).toNat = pre.length := by simp
theorem getD_mid {α : Type} (pre : List α) (y : α) (suf : List α) (z : α) : (pre ++ y :: suf).getD ((pre.length : Int)).toNat z = y := by simp
theorem lt_mid {α : Type} (pre : List α) (y : α) (suf : List α) : (pre.length : Int) < ((pre ++ y :: suf).length : Int) := by simp; omega
theorem not_lt_end {α : Type} (pre : List α) : ¬ (pre.length : Int) < ((pre ++ []).length : Int) := by simp
theorem next_mid {α : Type} (pre : List α) (y : α) (suf : List α) (h : (pre ++ y :: suf).length ≤ maxLen) : wrap64 ((pre.length : Int) + 1) = ((pre ++ [y]).length : Int) := by
  simp only [List.length_append, List.length_cons, List.length_nil, maxLen] at h ⊢
  rw [wrap_id (by omega) (by omega)]; omega
theorem assoc_mid {α : Type} (pre : List α) (y : α) (suf : List α) : pre ++ y :: suf = (pre ++ [y]) ++ suf := by simp
theorem set_mid {α : Type} (pre : List α) (y y' : α) (suf : List α) : (pre ++ y :: suf).set ((pre.length : Int)).toNat y' = (pre ++ [y']) ++ suf := by
  simp
end Go.Proofs.Ytcilbmbgdcepgaa.T
end

section
/- What the printed helpers on numbers and on lists of numbers come to. -/
namespace Go.Proofs.Ytcilbmbgdcepgaa.A
open Go.RowKit Go.Proofs.YtcilbmbgdcepgaaW.PrintWords Go.Proofs.YtcilbmbgdcepgaaW.PrintLast Go.Proofs.YtcilbmbgdcepgaaW.PrintMore Go.Proofs.Ytcilbmbgdcepgaa.P Go.Proofs.Ytcilbmbgdcepgaa.T
set_option linter.unusedVariables false
set_option linter.unusedSimpArgs false

theorem rd_mid (pre : List Int) (y : Int) (suf : List Int) : rd (pre ++ y :: suf) (pre.length : Int) = y := by simp [rd]
/-- m, m + 1, .. -/
def iota : Int → Nat → List Int
  | _, 0 => []
  | m, n + 1 => m :: iota (m + 1) n
theorem iota_length (n : Nat) : ∀ m, (iota m n).length = n := by
  induction n with
  | zero => intro m; rfl
  | succ n ih => intro m; simp [iota, ih]
theorem in_f (a lo hi : Int) : spec_l1In.f a lo hi = some (decide (lo ≤ a ∧ a ≤ hi)) := by
  unfold spec_l1In.f
  by_cases h : a ≥ lo
  · rw [if_pos h]; simp [show lo ≤ a from h]
  · rw [if_neg h]; simp; omega
theorem toInts_loop (l : List Int) : ∀ (suf pre qsuf : List Int), l = pre ++ suf → l.length ≤ maxLen → qsuf.length = suf.length →
    Ev (fun k => laws_toIntS.l0 k l (pre ++ qsuf) (pre.length : Int)) l := by
  intro suf
  induction suf with
  | nil =>
    intro pre qsuf hl hm h2
    subst hl
    obtain rfl : qsuf = [] := List.length_eq_zero_iff.1 h2
    refine Ev.step (fun k => laws_toIntS.l0.eq_2 ..) ?_
    exact ev_neg (not_lt_end _) (ev_const rfl)
  | cons y suf ih =>
    intro pre qsuf hl hm h2
    subst hl
    obtain ⟨z, qsuf, rfl⟩ : ∃ z t, qsuf = z :: t := by cases qsuf with | nil => simp at h2 | cons z t => exact ⟨z, t, rfl⟩
    refine Ev.step (fun k => laws_toIntS.l0.eq_2 ..) ?_
    refine ev_pos (lt_mid _ _ _) (ev_pos (by omega) (ev_pos (lt_mid _ _ _) ?_))
    rw [next_mid _ _ _ hm, set_mid, rd_mid]
    exact ih (pre ++ [y]) qsuf (assoc_mid _ _ _) hm (by simpa using h2)
theorem toInts (l : List Int) (h : l.length ≤ 1048576) : Ev (fun k => laws_toIntS.f k l) l := by
  have := toInts_loop l l [] (List.replicate l.length 0) rfl (by simp only [maxLen]; omega) (by simp)
  unfold laws_toIntS.f
  refine ev_pos (by omega) (ev_pos (by simp; omega) ?_)
  simpa using this
theorem eqInts_loop (l : List Int) : ∀ (suf pre : List Int), l = pre ++ suf → l.length ≤ maxLen → Ev (fun k => laws_eqIntS.l0 k l l (pre.length : Int)) true := by
  intro suf
  induction suf with
  | nil =>
    intro pre hl hm
    subst hl
    refine Ev.step (fun k => laws_eqIntS.l0.eq_2 ..) ?_
    exact ev_neg (not_lt_end _) (ev_const rfl)
  | cons y suf ih =>
    intro pre hl hm
    subst hl
    refine Ev.step (fun k => laws_eqIntS.l0.eq_2 ..) ?_
    refine ev_pos (lt_mid _ _ _) (ev_pos (by omega) (ev_pos (lt_mid _ _ _) (ev_pos rfl ?_)))
    rw [next_mid _ _ _ hm]
    exact ih (pre ++ [y]) (assoc_mid _ _ _) hm
theorem eqInts (l : List Int) (h : l.length ≤ maxLen) : Ev (fun k => laws_eqIntS.f k l l) true := by
  unfold laws_eqIntS.f
  exact ev_pos rfl (eqInts_loop l l [] rfl h)
theorem markInts_loop : ∀ (suf pre : List Int) (m : Int), (pre ++ suf).length ≤ maxLen → 0 ≤ m → m + (suf.length : Int) ≤ 9223372036854775807 →
    Ev (fun k => laws_markIntS.l0 k (pre ++ suf) m (pre.length : Int)) (m + (suf.length : Int), pre ++ iota m suf.length) := by
  intro suf
  induction suf with
  | nil =>
    intro pre m hm h0 h1
    refine Ev.step (fun k => laws_markIntS.l0.eq_2 ..) ?_
    exact ev_neg (not_lt_end _) (ev_const (by simp [iota]))
  | cons y suf ih =>
    intro pre m hm h0 h1
    simp only [List.length_cons, Int.natCast_add, Int.natCast_one] at h1
    refine Ev.step (fun k => laws_markIntS.l0.eq_2 ..) ?_
    refine ev_pos (lt_mid _ _ _) (ev_pos (by omega) ?_)
    rw [next_mid _ _ _ hm, set_mid, wrap_id (x := m + 1) (by omega) (by omega)]
    have := ih (pre ++ [m]) (m + 1) (by simpa using hm) (by omega) (by omega)
    rw [show ((pre ++ [m]).length : Int) = ((pre ++ [y]).length : Int) by simp] at this
    rw [show (m + ((y :: suf).length : Int), pre ++ iota m (y :: suf).length) = (m + 1 + (suf.length : Int), pre ++ [m] ++ iota (m + 1) suf.length) by simp [iota]; omega]
    exact this
theorem markInts (l : List Int) (m : Int) (h : l.length ≤ maxLen) (h0 : 0 ≤ m) (h1 : m + (l.length : Int) ≤ 9223372036854775807) : Ev (fun k => laws_markIntS.f k l m) (m + (l.length : Int), iota m l.length) := by
  unfold laws_markIntS.f
  exact markInts_loop l [] m h h0 h1
theorem heldInts_loop : ∀ (n : Nat) (pre : List Int) (m : Int), (pre ++ iota m n).length ≤ maxLen → 0 ≤ m → m + (n : Int) ≤ 9223372036854775807 →
    Ev (fun k => laws_heldIntS.l0 k (pre ++ iota m n) m (pre.length : Int)) (m + (n : Int)) := by
  intro n
  induction n with
  | zero =>
    intro pre m hm h0 h1
    refine Ev.step (fun k => laws_heldIntS.l0.eq_2 ..) ?_
    exact ev_neg (not_lt_end _) (ev_const (by simp))
  | succ n ih =>
    intro pre m hm h0 h1
    refine Ev.step (fun k => laws_heldIntS.l0.eq_2 ..) ?_
    simp only [iota] at hm ⊢
    refine ev_pos (lt_mid _ _ _) (ev_pos (by omega) (ev_pos (rd_mid _ _ _) ?_))
    rw [next_mid _ _ _ hm, wrap_id (x := m + 1) (by omega) (by omega), assoc_mid]
    have := ih (pre ++ [m]) (m + 1) (by simpa using hm) (by omega) (by omega)
    rw [show m + ((n + 1 : Nat) : Int) = m + 1 + (n : Int) by omega]
    exact this
theorem heldInts (n : Nat) (m : Int) (h : n ≤ maxLen) (h0 : 0 ≤ m) (h1 : m + (n : Int) ≤ 9223372036854775807) : Ev (fun k => laws_heldIntS.f k (iota m n) m) (m + (n : Int)) := by
  unfold laws_heldIntS.f
  exact heldInts_loop n [] m (by simpa [iota_length] using h) h0 h1
theorem l1All_loop (lo hi : Int) (l : List Int) (hm : l.length ≤ maxLen) : ∀ (suf pre : List Int), l = pre ++ suf →
    Ev (fun k => spec_l1All.l0 k lo hi l (l.length : Int) (pre.length : Int)) (decide (∀ x ∈ suf, lo ≤ x ∧ x ≤ hi)) := by
  intro suf
  induction suf with
  | nil =>
    intro pre hl
    subst hl
    refine Ev.step (fun k => spec_l1All.l0.eq_2 ..) ?_
    exact ev_neg (not_lt_end _) (ev_const (by simp))
  | cons y suf ih =>
    intro pre hl
    subst hl
    refine Ev.step (fun k => spec_l1All.l0.eq_2 ..) ?_
    refine ev_pos (lt_mid _ _ _) (ev_pos (by omega) (ev_pos (lt_mid _ _ _) ?_))
    simp only [in_f, rd_mid, Option.bind_some, decide_eq_true_eq]
    by_cases h : lo ≤ y ∧ y ≤ hi
    · refine ev_pos h ?_
      rw [next_mid _ _ _ hm]
      have := ih (pre ++ [y]) (assoc_mid _ _ _)
      rw [show decide (∀ x ∈ y :: suf, lo ≤ x ∧ x ≤ hi) = decide (∀ x ∈ suf, lo ≤ x ∧ x ≤ hi) by rw [decide_eq_decide]; simp [h]]
      exact this
    · refine ev_neg h (ev_const ?_)
      rw [show decide (∀ x ∈ y :: suf, lo ≤ x ∧ x ≤ hi) = false from decide_eq_false (fun hh => h (hh y List.mem_cons_self))]
theorem l1All (l : List Int) (lo hi : Int) (hm : l.length ≤ maxLen) : Ev (fun k => spec_l1All.f k l lo hi) (decide (∀ x ∈ l, lo ≤ x ∧ x ≤ hi)) := by
  unfold spec_l1All.f
  exact l1All_loop lo hi l hm l [] rfl
theorem l1Has_loop (l : List Int) (n : Int) (hm : l.length ≤ maxLen) : ∀ (suf pre : List Int), l = pre ++ suf →
    Ev (fun k => spec_l1Has.l0 k n l (l.length : Int) (pre.length : Int)) (decide (n ∈ suf)) := by
  intro suf
  induction suf with
  | nil =>
    intro pre hl
    subst hl
    refine Ev.step (fun k => spec_l1Has.l0.eq_2 ..) ?_
    exact ev_neg (not_lt_end _) (ev_const (by simp))
  | cons y suf ih =>
    intro pre hl
    subst hl
    refine Ev.step (fun k => spec_l1Has.l0.eq_2 ..) ?_
    refine ev_pos (lt_mid _ _ _) (ev_pos (by omega) (ev_pos (lt_mid _ _ _) ?_))
    simp only [rd_mid]
    by_cases h : y = n
    · refine ev_pos h (ev_const ?_)
      rw [decide_eq_true (by rw [h]; exact List.mem_cons_self)]
    · refine ev_neg h ?_
      rw [next_mid _ _ _ hm]
      have := ih (pre ++ [y]) (assoc_mid _ _ _)
      rw [show decide (n ∈ y :: suf) = decide (n ∈ suf) by rw [decide_eq_decide, List.mem_cons]; exact ⟨fun hh => hh.resolve_left (fun e => h e.symm), Or.inr⟩]
      exact this
theorem l1Has (l : List Int) (n : Int) (hm : l.length ≤ maxLen) : Ev (fun k => spec_l1Has.f k l n) (decide (n ∈ l)) := by
  unfold spec_l1Has.f
  exact l1Has_loop l n hm l [] rfl
end Go.Proofs.Ytcilbmbgdcepgaa.A
end

section
/- What the printed functions on cells and boards come to: copies, comparison, marks, and the tests whether a board is valid. -/
namespace Go.Proofs.Ytcilbmbgdcepgaa.A
open Go.RowKit Go.Proofs.YtcilbmbgdcepgaaW.PrintWords Go.Proofs.YtcilbmbgdcepgaaW.PrintLast Go.Proofs.YtcilbmbgdcepgaaW.PrintMore Go.Proofs.Ytcilbmbgdcepgaa.P Go.Proofs.Ytcilbmbgdcepgaa.T
set_option linter.unusedVariables false
set_option linter.unusedSimpArgs false

theorem rdc_mid (pre : List S71) (y : S71) (suf : List S71) : rd_T71 (pre ++ y :: suf) (pre.length : Int) = y := by simp [rd_T71]
/-- The copy of one cell. -/
def cpC (x : S96) : S71 := ⟨x.f0, x.f1⟩
theorem toCells_loop (l : List S96) : ∀ (suf pre : List S96) (qre qsuf : List S71), l = pre ++ suf → l.length ≤ maxLen → qre.length = pre.length → qsuf.length = suf.length →
    Ev (fun k => laws_toCellS.l0 k l (qre ++ qsuf) (pre.length : Int)) (qre ++ suf.map cpC) := by
  intro suf
  induction suf with
  | nil =>
    intro pre qre qsuf hl hm h1 h2
    subst hl
    obtain rfl : qsuf = [] := List.length_eq_zero_iff.1 h2
    refine Ev.step (fun k => laws_toCellS.l0.eq_2 ..) ?_
    refine ev_neg (not_lt_end _) (ev_const (by simp))
  | cons y suf ih =>
    intro pre qre qsuf hl hm h1 h2
    subst hl
    obtain ⟨z, qsuf, rfl⟩ : ∃ z t, qsuf = z :: t := by cases qsuf with | nil => simp at h2 | cons z t => exact ⟨z, t, rfl⟩
    refine Ev.step (fun k => laws_toCellS.l0.eq_2 ..) ?_
    refine ev_pos (lt_mid _ _ _) (ev_pos (by omega) ?_)
    simp only [laws_toCell.f, Option.bind_some, rd_T96, getD_mid]
    refine ev_pos (by rw [← h1]; exact lt_mid _ _ _) ?_
    rw [next_mid _ _ _ hm, ← h1, set_mid]
    have := ih (pre ++ [y]) (qre ++ [cpC y]) qsuf (assoc_mid _ _ _) hm (by simp [h1]) (by simpa using h2)
    simpa [cpC] using this
theorem toCells (l : List S96) (h : l.length ≤ 1048576) : Ev (fun k => laws_toCellS.f k l) (l.map cpC) := by
  have := toCells_loop l l [] [] (List.replicate l.length z71) rfl (by simp only [maxLen]; omega) rfl (by simp)
  unfold laws_toCellS.f
  refine ev_pos (by omega) (ev_pos (by simp; omega) ?_)
  simpa using this
theorem toBo (a b : Int) (l : List S96) (h : l.length ≤ 1048576) : Ev (fun k => laws_toBoard.f k a b l) (a, b, l.map cpC) := by
  unfold laws_toBoard.f
  exact ev_bind (toCells l h) (ev_const rfl)
theorem szBo (r c : Int) (l : List S96) (a : Int) (ha : 0 ≤ a ∧ a ≤ 1048576) (h : l.length ≤ maxLen) : laws_szBoard.f r c l a = some (if a - (l.length : Int) < 0 then -1 else a - (l.length : Int)) := by
  unfold laws_szBoard.f laws_szCellS.f
  simp only [maxLen] at h
  rw [wrap_id (x := a - (l.length : Int)) (by omega) (by omega)]
  by_cases h1 : a - (l.length : Int) < 0
  · rw [if_pos h1, Option.bind_some, if_pos (by omega), if_pos h1]
  · rw [if_neg h1, Option.bind_some, if_neg h1, if_neg h1]
theorem eqCells_loop (l : List S71) : ∀ (suf pre : List S71), l = pre ++ suf → l.length ≤ maxLen → Ev (fun k => laws_eqCellS.l0 k l l (pre.length : Int)) true := by
  intro suf
  induction suf with
  | nil =>
    intro pre hl hm
    subst hl
    refine Ev.step (fun k => laws_eqCellS.l0.eq_2 ..) ?_
    refine ev_neg (not_lt_end _) (ev_const rfl)
  | cons y suf ih =>
    intro pre hl hm
    subst hl
    refine Ev.step (fun k => laws_eqCellS.l0.eq_2 ..) ?_
    refine ev_pos (lt_mid _ _ _) (ev_pos (by omega) (ev_pos (lt_mid _ _ _) ?_))
    simp only [laws_eqCell.f, if_true, Option.bind_some]
    rw [next_mid _ _ _ hm]
    exact ih (pre ++ [y]) (assoc_mid _ _ _) hm
theorem eqCells (l : List S71) (h : l.length ≤ maxLen) : Ev (fun k => laws_eqCellS.f k l l) true := by
  unfold laws_eqCellS.f
  exact ev_pos rfl (eqCells_loop l l [] rfl h)
theorem eqBo (a b : Int) (l : List S71) (h : l.length ≤ maxLen) : Ev (fun k => laws_eqBoard.f k a b l a b l) true := by
  unfold laws_eqBoard.f
  exact ev_pos rfl (ev_pos rfl (ev_bind (eqCells l h) (ev_const rfl)))
def iotaC : Int → Nat → List S71
  | _, 0 => []
  | m, n + 1 => ⟨m, m + 1⟩ :: iotaC (m + 2) n
theorem iotaC_length (n : Nat) : ∀ m, (iotaC m n).length = n := by
  induction n with
  | zero => intro m; rfl
  | succ n ih => intro m; simp [iotaC, ih]
theorem markCells_loop : ∀ (suf pre : List S71) (m : Int), (pre ++ suf).length ≤ maxLen → 0 ≤ m → m + 2 * (suf.length : Int) ≤ 9223372036854775807 →
    Ev (fun k => laws_markCellS.l0 k (pre ++ suf) m (pre.length : Int)) (m + 2 * (suf.length : Int), pre ++ iotaC m suf.length) := by
  intro suf
  induction suf with
  | nil =>
    intro pre m hm h0 h1
    refine Ev.step (fun k => laws_markCellS.l0.eq_2 ..) ?_
    exact ev_neg (not_lt_end _) (ev_const (by simp [iotaC]))
  | cons y suf ih =>
    intro pre m hm h0 h1
    simp only [List.length_cons, Int.natCast_add, Int.natCast_one] at h1
    refine Ev.step (fun k => laws_markCellS.l0.eq_2 ..) ?_
    refine ev_pos (lt_mid _ _ _) (ev_pos (by omega) ?_)
    simp only [Option.bind_some]
    rw [next_mid _ _ _ hm, set_mid, List.append_assoc, List.singleton_append]
    simp only [rdc_mid]
    rw [set_mid, wrap_id (x := m + 1) (by omega) (by omega), wrap_id (x := m + 1 + 1) (by omega) (by omega)]
    have := ih (pre ++ [⟨m, m + 1⟩]) (m + 2) (by simpa using hm) (by omega) (by omega)
    rw [show ((pre ++ [(⟨m, m + 1⟩ : S71)]).length : Int) = ((pre ++ [y]).length : Int) by simp] at this
    rw [show (m + 2 * ((y :: suf).length : Int), pre ++ iotaC m (y :: suf).length) = (m + 2 + 2 * (suf.length : Int), pre ++ [(⟨m, m + 1⟩ : S71)] ++ iotaC (m + 2) suf.length) by simp [iotaC]; omega, show m + 1 + 1 = m + 2 by omega]
    exact this
theorem markBo (a b : Int) (l : List S71) (m : Int) (h : l.length ≤ maxLen) (h0 : 0 ≤ m) (h1 : m + 2 * (l.length : Int) ≤ 9223372036854775807) : Ev (fun k => laws_markBoard.f k a b l m) (m + 2 * (l.length : Int), iotaC m l.length) := by
  unfold laws_markBoard.f laws_markCellS.f
  exact ev_bind (markCells_loop l [] m h h0 h1) (ev_const rfl)
theorem heldCells_loop : ∀ (n : Nat) (pre : List S71) (m : Int), (pre ++ iotaC m n).length ≤ maxLen → 0 ≤ m → m + 2 * (n : Int) ≤ 9223372036854775807 →
    Ev (fun k => laws_heldCellS.l0 k (pre ++ iotaC m n) m (pre.length : Int)) (m + 2 * (n : Int)) := by
  intro n
  induction n with
  | zero =>
    intro pre m hm h0 h1
    refine Ev.step (fun k => laws_heldCellS.l0.eq_2 ..) ?_
    exact ev_neg (not_lt_end _) (ev_const (by simp))
  | succ n ih =>
    intro pre m hm h0 h1
    refine Ev.step (fun k => laws_heldCellS.l0.eq_2 ..) ?_
    simp only [iotaC] at hm ⊢
    refine ev_pos (lt_mid _ _ _) (ev_pos (by omega) ?_)
    have w1 : wrap64 (m + 1) = m + 1 := wrap_id (by omega) (by omega)
    have w2 : wrap64 (m + 1 + 1) = m + 2 := (wrap_id (by omega) (by omega)).trans (by omega)
    simp only [rdc_mid, w1, w2, if_true]
    rw [next_mid _ _ _ hm, assoc_mid]
    have := ih (pre ++ [⟨m, m + 1⟩]) (m + 2) (by simpa using hm) (by omega) (by omega)
    rw [show m + 2 * ((n + 1 : Nat) : Int) = m + 2 + 2 * (n : Int) by omega]
    exact this
theorem heldBo (a b : Int) (n : Nat) (m : Int) (h : n ≤ maxLen) (h0 : 0 ≤ m) (h1 : m + 2 * (n : Int) ≤ 9223372036854775807) : Ev (fun k => laws_heldBoard.f k a b (iotaC m n) m) (m + 2 * (n : Int)) := by
  unfold laws_heldBoard.f laws_heldCellS.f
  exact ev_bind (heldCells_loop n [] m (by simpa [iotaC_length] using h) h0 h1) (ev_neg (by omega) (ev_const rfl))
def CellOk (a b : Int) : Prop := (0 ≤ a ∧ a ≤ 7) ∧ (b = 0 ∨ b = 1 ∧ (a = 3 ∨ a = 6))
instance (a b : Int) : Decidable (CellOk a b) := by unfold CellOk; infer_instance
def BoOk (r c : Int) (l : List S71) : Prop := (1 ≤ r ∧ r ≤ 10) ∧ (1 ≤ c ∧ c ≤ 9) ∧ (l.length : Int) = r * c ∧ ∀ x ∈ l, CellOk x.f0 x.f1
instance (r c : Int) (l : List S71) : Decidable (BoOk r c l) := by unfold BoOk; infer_instance
theorem mul_small {r c : Int} (h1 : 1 ≤ r ∧ r ≤ 10) (h2 : 1 ≤ c ∧ c ≤ 9) : 1 ≤ r * c ∧ r * c ≤ 90 := by
  have h : r = 1 ∨ r = 2 ∨ r = 3 ∨ r = 4 ∨ r = 5 ∨ r = 6 ∨ r = 7 ∨ r = 8 ∨ r = 9 ∨ r = 10 := by omega
  rcases h with rfl | rfl | rfl | rfl | rfl | rfl | rfl | rfl | rfl | rfl <;> omega
theorem BoOk.len {r c : Int} {l : List S71} (h : BoOk r c l) : l.length ≤ 90 := by
  have := mul_small h.1 h.2.1
  have := h.2.2.1
  omega
theorem paTurning (a b : Int) : spec_paTurning.f a b = some (decide (a = 3 ∨ a = 6)) := by
  unfold spec_paTurning.f
  by_cases h : a = 3
  · rw [if_pos h]; simp [h]
  · rw [if_neg h]; simp [h, Bool.beq_eq_decide_eq]
theorem paGood (a b : Int) : spec_paGood.f a b = some (decide (CellOk a b)) := by
  unfold spec_paGood.f
  rw [in_f, Option.bind_some, paTurning]
  by_cases h : 0 ≤ a ∧ a ≤ 7
  · rw [if_pos (by simpa using h)]
    by_cases h1 : b = 0
    · rw [if_pos h1]; rw [decide_eq_true (show CellOk a b from ⟨h, .inl h1⟩)]
    · rw [if_neg h1]
      by_cases h2 : b = 1
      · rw [if_pos h2, Option.bind_some, Option.some.injEq, decide_eq_decide]
        exact ⟨fun h3 => ⟨h, .inr ⟨h2, h3⟩⟩, fun h3 => (h3.2.resolve_left h1).2⟩
      · rw [if_neg h2, decide_eq_false (fun h3 : CellOk a b => h2 (h3.2.resolve_left h1).1)]
  · rw [if_neg (by simpa using h), decide_eq_false (fun h3 : CellOk a b => h h3.1)]
theorem isCell (a b : Int) : impl_IsCell.f a b = some (decide (CellOk a b)) := by
  unfold impl_IsCell.f
  by_cases h : 0 ≤ a ∧ a ≤ 7
  · rw [if_neg (by omega), if_neg (by omega)]
    by_cases h1 : b < 0
    · rw [if_pos h1, decide_eq_false (fun h3 : CellOk a b => by have := h3.2; omega)]
    rw [if_neg h1]
    by_cases h2 : b > 1
    · rw [if_pos h2, decide_eq_false (fun h3 : CellOk a b => by have := h3.2; omega)]
    rw [if_neg h2]
    by_cases h3 : b = 0
    · rw [if_pos h3, decide_eq_true (show CellOk a b from ⟨h, .inl h3⟩)]
    rw [if_neg h3]
    have h4 : b = 1 := by omega
    by_cases h5 : a = 3
    · rw [if_pos h5, decide_eq_true (show CellOk a b from ⟨h, .inr ⟨h4, .inl h5⟩⟩)]
    · rw [if_neg h5, Bool.beq_eq_decide_eq, Option.some.injEq, decide_eq_decide]
      exact ⟨fun h6 => ⟨h, .inr ⟨h4, .inr h6⟩⟩, fun h6 => (h6.2.resolve_left h3).2.resolve_left h5⟩
  · rw [decide_eq_false (fun h3 : CellOk a b => h h3.1)]
    by_cases h1 : a < 0
    · rw [if_pos h1]
    · rw [if_neg h1, if_pos (by omega)]
theorem boGood_loop (l : List S71) (hm : l.length ≤ maxLen) : ∀ (suf pre : List S71), l = pre ++ suf →
    Ev (fun k => spec_boGood.l0 k l (l.length : Int) (pre.length : Int)) (decide (∀ x ∈ suf, CellOk x.f0 x.f1)) := by
  intro suf
  induction suf with
  | nil =>
    intro pre hl
    subst hl
    exact Ev.step (fun k => spec_boGood.l0.eq_2 ..) (ev_neg (not_lt_end _) (ev_const (by simp)))
  | cons y suf ih =>
    intro pre hl
    subst hl
    refine Ev.step (fun k => spec_boGood.l0.eq_2 ..) (ev_pos (lt_mid _ _ _) (ev_pos (by omega) (ev_pos (lt_mid _ _ _) ?_)))
    simp only [rdc_mid, paGood, Option.bind_some, decide_eq_true_eq]
    by_cases h : CellOk y.f0 y.f1
    · refine ev_pos h ?_
      rw [next_mid _ _ _ hm]
      rw [show decide (∀ x ∈ y :: suf, CellOk x.f0 x.f1) = decide (∀ x ∈ suf, CellOk x.f0 x.f1) by rw [decide_eq_decide]; simp [h]]
      exact ih (pre ++ [y]) (assoc_mid _ _ _)
    · refine ev_neg h (ev_const ?_)
      rw [show decide (∀ x ∈ y :: suf, CellOk x.f0 x.f1) = false from decide_eq_false (fun hh => h (hh y List.mem_cons_self))]
theorem boGood (r c : Int) (l : List S71) (hm : l.length ≤ maxLen) : Ev (fun k => spec_boGood.f k r c l) (decide (BoOk r c l)) := by
  unfold spec_boGood.f
  have no : ∀ b, b = true → ¬ BoOk r c l → Ev (fun k => spec_boGood.j0 k b r c l) (decide (BoOk r c l)) := by
    intro b hb h
    rw [decide_eq_false h]
    exact Ev.step (fun k => spec_boGood.j0.eq_2 ..) (ev_pos hb (ev_const rfl))
  simp only [in_f, Option.bind_some, decide_eq_true_eq]
  by_cases h1 : 1 ≤ r ∧ r ≤ 10
  · refine ev_pos h1 ?_
    by_cases h2 : 1 ≤ c ∧ c ≤ 9
    · have h3 := mul_small h1 h2
      refine ev_pos h2 ?_
      rw [wrap_id (by omega) (by omega)]
      by_cases h4 : (l.length : Int) = r * c
      · rw [show ((l.length : Int) != r * c) = false by simpa using h4]
        refine Ev.step (fun k => spec_boGood.j0.eq_2 ..) (ev_neg (by simp) ?_)
        rw [show decide (BoOk r c l) = decide (∀ x ∈ l, CellOk x.f0 x.f1) from decide_eq_decide.2 ⟨fun h => h.2.2.2, fun h => ⟨h1, h2, h4, h⟩⟩]
        exact boGood_loop l hm l [] rfl
      · exact no _ (by simpa using h4) (fun h => h4 h.2.2.1)
    · exact ev_neg h2 (no _ rfl (fun h => h2 h.2.1))
  · exact ev_neg h1 (no _ rfl (fun h => h1 h.1))
theorem validCells_loop (l : List S71) (hm : l.length ≤ maxLen) : ∀ (suf pre : List S71), l = pre ++ suf →
    Ev (fun k => impl_validCells.l0 k l (l.length : Int) (pre.length : Int)) (decide (∀ x ∈ suf, CellOk x.f0 x.f1)) := by
  intro suf
  induction suf with
  | nil =>
    intro pre hl
    subst hl
    exact Ev.step (fun k => impl_validCells.l0.eq_2 ..) (ev_neg (not_lt_end _) (ev_const (by simp)))
  | cons y suf ih =>
    intro pre hl
    subst hl
    refine Ev.step (fun k => impl_validCells.l0.eq_2 ..) (ev_pos (lt_mid _ _ _) (ev_pos (by omega) (ev_pos (lt_mid _ _ _) ?_)))
    simp only [rdc_mid, isCell, Option.bind_some, decide_eq_true_eq]
    by_cases h : CellOk y.f0 y.f1
    · refine ev_pos h ?_
      rw [next_mid _ _ _ hm]
      rw [show decide (∀ x ∈ y :: suf, CellOk x.f0 x.f1) = decide (∀ x ∈ suf, CellOk x.f0 x.f1) by rw [decide_eq_decide]; simp [h]]
      exact ih (pre ++ [y]) (assoc_mid _ _ _)
    · refine ev_neg h (ev_const ?_)
      rw [show decide (∀ x ∈ y :: suf, CellOk x.f0 x.f1) = false from decide_eq_false (fun hh => h (hh y List.mem_cons_self))]
theorem isBoard (r c : Int) (l : List S71) (hm : l.length ≤ maxLen) : Ev (fun k => impl_IsBoard.f k r c l) (decide (BoOk r c l)) := by
  unfold impl_IsBoard.f
  have no : ¬ BoOk r c l → Ev (fun _ : Nat => some false) (decide (BoOk r c l)) := by
    intro h; rw [decide_eq_false h]; exact ev_const rfl
  by_cases h1 : 1 ≤ r
  · refine ev_pos h1 ?_
    by_cases h2 : r ≤ 10
    · refine ev_pos h2 ?_
      by_cases h3 : 1 ≤ c
      · refine ev_pos h3 ?_
        by_cases h4 : c ≤ 9
        · refine ev_pos h4 ?_
          have h5 := mul_small ⟨h1, h2⟩ ⟨h3, h4⟩
          rw [wrap_id (by omega) (by omega)]
          by_cases h6 : (l.length : Int) = r * c
          · refine ev_pos h6 ?_
            rw [show decide (BoOk r c l) = decide (∀ x ∈ l, CellOk x.f0 x.f1) from decide_eq_decide.2 ⟨fun h => h.2.2.2, fun h => ⟨⟨h1, h2⟩, ⟨h3, h4⟩, h6, h⟩⟩]
            unfold impl_validCells.f
            exact ev_bind (ev_neg (by omega) (validCells_loop l hm l [] rfl)) (ev_const rfl)
          · exact ev_neg h6 (no (fun h => h6 h.2.2.1))
        · exact ev_neg h4 (no (fun h => h4 h.2.1.2))
      · exact ev_neg h3 (no (fun h => h3 h.2.1.1))
    · exact ev_neg h2 (no (fun h => h2 h.1.2))
  · exact ev_neg h1 (no (fun h => h1 h.1.1))
end Go.Proofs.Ytcilbmbgdcepgaa.A
end

section
/- What the printed functions on counters made of boards come to. -/
namespace Go.Proofs.Ytcilbmbgdcepgaa.A
open Go.RowKit Go.Proofs.YtcilbmbgdcepgaaW.PrintWords Go.Proofs.YtcilbmbgdcepgaaW.PrintLast Go.Proofs.YtcilbmbgdcepgaaW.PrintMore Go.Proofs.Ytcilbmbgdcepgaa.P Go.Proofs.Ytcilbmbgdcepgaa.T
set_option linter.unusedVariables false
set_option linter.unusedSimpArgs false

theorem five {n : Int} (h : 1 ≤ n ∧ n ≤ 5) : n = 1 ∨ n = 2 ∨ n = 3 ∨ n = 4 ∨ n = 5 := by omega
theorem u64_five (n : Int) (h : 1 ≤ n ∧ n ≤ 5) : IntKind.u64.wrap n = n := by
  rcases five h with rfl | rfl | rfl | rfl | rfl <;> decide
theorem shl_five (n : Int) (h : 1 ≤ n ∧ n ≤ 5) : 2 ≤ shl .i64 1 n ∧ shl .i64 1 n ≤ 32 := by
  rcases five h with rfl | rfl | rfl | rfl | rfl <;> decide
def AskB (n v : Int) : Prop := (1 ≤ n ∧ n ≤ 5) ∧ 0 ≤ v ∧ v < shl .i64 1 n
instance (n v : Int) : Decidable (AskB n v) := by unfold AskB; infer_instance
theorem bcBits (n : Int) : spec_bcBits.f n = some (decide (1 ≤ n ∧ n ≤ 5)) := by
  unfold spec_bcBits.f
  rw [in_f, Option.bind_some]
theorem bcAsked (n v : Int) : spec_bcAsked.f n v = some (decide (AskB n v)) := by
  unfold spec_bcAsked.f
  rw [bcBits, Option.bind_some]
  by_cases h : 1 ≤ n ∧ n ≤ 5
  · have h2 := shl_five n h
    have h3 : wrap64 (shl .i64 1 n - 1) = shl .i64 1 n - 1 := wrap_id (by omega) (by omega)
    rw [u64_five n h, if_pos (by simpa using h), if_pos (by omega), in_f, h3]
    simp only [Option.bind_some, Option.some.injEq, decide_eq_decide]
    unfold AskB
    omega
  · rw [if_neg (by simpa using h), decide_eq_false (fun h2 : AskB n v => h h2.1)]
theorem counterBoard_loop (n : Nat) (v : Int) (hn : 1 ≤ n ∧ n ≤ 5) : ∀ (d m : Nat), m + d = n → Ev (fun k => impl_counterBoard.l0 k n v m (2 * n) 3 (bcStage v n m)) (2 * (n : Int), 3, bcCells v n) := by
  intro d
  induction d with
  | zero =>
    intro m h
    obtain rfl : m = n := by omega
    refine Ev.step (fun k => impl_counterBoard.l0.eq_2 ..) (ev_neg (by omega) (ev_const ?_))
    simp [bcStage]
  | succ d ih =>
    intro m h
    have e6 : wrap64 (6 * (m : Int)) = 6 * m := wrap_id (by omega) (by omega)
    have e1 : wrap64 (6 * (m : Int) + 1) = 6 * m + 1 := wrap_id (by omega) (by omega)
    have e5 : wrap64 (6 * (m : Int) + 5) = 6 * m + 5 := wrap_id (by omega) (by omega)
    have hl := bcStage_length v n m (by omega)
    refine Ev.step (fun k => impl_counterBoard.l0.eq_2 ..) (ev_pos (by omega) (ev_pos (by omega) ?_))
    simp only [e6, e1, e5]
    refine ev_pos (by omega) (ev_pos (by omega) (ev_pos (by omega) (ev_pos (by omega) ?_)))
    rw [wrap_id (x := (m : Int) + 1) (by omega) (by omega), show (6 * (m : Int) + 1).toNat = 6 * m + 1 by omega, show (6 * (m : Int) + 5).toNat = 6 * m + 5 by omega]
    have := bcStage_next v n m (by omega)
    unfold bcBit at this
    rw [this]
    exact ih (m + 1) (by omega)
theorem counterBoard (n v : Int) (hn : 1 ≤ n ∧ n ≤ 5) : Ev (fun k => impl_counterBoard.f k n v) (2 * n, 3, bcCells v n.toNat) := by
  obtain ⟨m, rfl⟩ := Int.eq_ofNat_of_zero_le (show 0 ≤ n by omega)
  unfold impl_counterBoard.f
  rw [wrap_id (x := 6 * (m : Int)) (by omega) (by omega), wrap_id (x := 2 * (m : Int)) (by omega) (by omega)]
  refine ev_pos (by omega) (ev_pos (by omega) ?_)
  have := counterBoard_loop m v (by omega) m 0 (by omega)
  rw [show (6 * (m : Int)).toNat = 6 * m by omega, Int.toNat_natCast]
  simpa [bcStage, bcCells] using this
theorem bcBoard (n v : Int) (hn : 1 ≤ n ∧ n ≤ 5) (k : Nat) : spec_bcBoard.f k n v = some (2 * n, 3, bcCells v n.toNat) := by
  unfold spec_bcBoard.f; rw [if_pos hn]
def counterB (n v : Int) : Int × Int × List S71 × Bool := if AskB n v then (2 * n, 3, bcCells v n.toNat, true) else (0, 0, [], false)
theorem counterB_len (n v : Int) : (counterB n v).2.2.1.length ≤ 30 := by
  unfold counterB
  split
  · rename_i h
    have := h.1
    simp only [bcCells_length]; omega
  · simp
theorem implCounterBoard (n v : Int) : Ev (fun k => impl_CounterBoard.f k n v) (counterB n v) := by
  unfold impl_CounterBoard.f counterB
  by_cases h : AskB n v
  · rw [if_pos h]
    obtain ⟨h1, h2, h3⟩ := h
    exact ev_neg (by omega) (ev_neg (by omega) (ev_neg (by omega) (ev_pos (by omega) (ev_neg (by omega) (ev_bind (counterBoard n v h1) (ev_const rfl))))))
  · rw [if_neg h]
    by_cases h1 : n < 1
    · exact ev_pos h1 (ev_const rfl)
    refine ev_neg h1 ?_
    by_cases h2 : n > 5
    · exact ev_pos h2 (ev_const rfl)
    refine ev_neg h2 ?_
    by_cases h3 : v < 0
    · exact ev_pos h3 (ev_const rfl)
    refine ev_neg h3 (ev_pos (by omega) (ev_pos ?_ (ev_const rfl)))
    unfold AskB at h
    omega
end Go.Proofs.Ytcilbmbgdcepgaa.A
end

section
/- What the printed functions that read the value of a counter come to. -/
namespace Go.Proofs.Ytcilbmbgdcepgaa.A
open Go.RowKit Go.Proofs.YtcilbmbgdcepgaaW.PrintWords Go.Proofs.YtcilbmbgdcepgaaW.PrintLast Go.Proofs.YtcilbmbgdcepgaaW.PrintMore Go.Proofs.Ytcilbmbgdcepgaa.P Go.Proofs.Ytcilbmbgdcepgaa.T
set_option linter.unusedVariables false
set_option linter.unusedSimpArgs false

theorem shl_bit : ∀ (i : Fin 5) (s : Fin 2), shl .i64 ((s.val : Nat) : Int) ((i.val : Nat) : Int) = (s.val : Int) * 2 ^ i.val := by decide
theorem or_bit : ∀ (i : Fin 5) (v : Fin 16) (s : Fin 2), v.val < 2 ^ i.val → Go.bits .or .i64 ((v.val : Nat) : Int) ((s.val : Int) * 2 ^ i.val) = (v.val : Int) + (s.val : Int) * 2 ^ i.val := by decide
theorem u64_bit : ∀ (i : Fin 5), IntKind.u64.wrap ((i.val : Nat) : Int) = ((i.val : Nat) : Int) := by decide
instance : DecidableEq S71 := fun x y =>
  if h : x.f0 = y.f0 ∧ x.f1 = y.f1 then isTrue (by cases x; cases y; simp_all) else isFalse (by rintro rfl; exact h ⟨rfl, rfl⟩)
theorem cell_ne (x y : S71) : (!(x.f0 == y.f0) || !(x.f1 == y.f1)) = !decide (x = y) := by
  cases x with | mk a b =>
  cases y with | mk c d =>
  simp only [S71.mk.injEq]
  by_cases h : a = c <;> by_cases h2 : b = d <;> simp [h, h2, Bool.beq_eq_decide_eq]
/-- The state of cell j. -/
def stA (l : List S71) (j : Nat) : Int := (l.getD j z71).f1
/-- The value of the first i bits. -/
def valB (l : List S71) : Nat → Int
  | 0 => 0
  | i + 1 => valB l i + stA l (6 * i + 1) * 2 ^ i
theorem stA_bit {r c : Int} {l : List S71} (h : BoOk r c l) (j : Nat) : stA l j = 0 ∨ stA l j = 1 := by
  unfold stA
  by_cases hj : j < l.length
  · have hm : l.getD j z71 ∈ l := by
      rw [List.getD_eq_getElem?_getD, List.getElem?_eq_getElem hj]; exact List.getElem_mem _
    have := (h.2.2.2 _ hm).2
    omega
  · rw [List.getD_eq_getElem?_getD, List.getElem?_eq_none (by omega)]
    exact .inl rfl
theorem valB_bound {r c : Int} {l : List S71} (h : BoOk r c l) : ∀ i, 0 ≤ valB l i ∧ valB l i < 2 ^ i := by
  intro i
  induction i with
  | zero => exact ⟨Int.le_refl 0, by simp [valB]⟩
  | succ i ih =>
    have h2 : (0 : Int) < 2 ^ i := Int.pow_pos (by decide)
    have e : (2 : Int) ^ (i + 1) = 2 ^ i + 2 ^ i := by rw [Int.pow_succ]; omega
    rcases stA_bit h (6 * i + 1) with hs | hs <;> (simp only [valB, hs, e]; omega)
theorem pow_small (i : Nat) (h : i ≤ 5) : (2 : Int) ^ i ≤ 32 := by
  have : i = 0 ∨ i = 1 ∨ i = 2 ∨ i = 3 ∨ i = 4 ∨ i = 5 := by omega
  rcases this with rfl | rfl | rfl | rfl | rfl | rfl <;> decide
theorem shl_at {r c : Int} {l : List S71} (h : BoOk r c l) (i : Nat) (hi : i < 5) (j : Nat) : shl .i64 (stA l j) (i : Int) = stA l j * 2 ^ i := by
  rcases stA_bit h j with hs | hs <;> rw [hs]
  · exact shl_bit ⟨i, hi⟩ ⟨0, by decide⟩
  · exact shl_bit ⟨i, hi⟩ ⟨1, by decide⟩
theorem or_at {r c : Int} {l : List S71} (h : BoOk r c l) (i : Nat) (hi : i < 5) : Go.bits .or .i64 (valB l i) (shl .i64 (stA l (6 * i + 1)) (i : Int)) = valB l (i + 1) := by
  have hb := valB_bound h i
  obtain ⟨v, hv⟩ := Int.eq_ofNat_of_zero_le hb.1
  have hp : (2 : Int) ^ i ≤ 16 := by
    have : i = 0 ∨ i = 1 ∨ i = 2 ∨ i = 3 ∨ i = 4 := by omega
    rcases this with rfl | rfl | rfl | rfl | rfl <;> decide
  have hv2 : v < 2 ^ i := by
    have := hb.2; rw [hv] at this; exact_mod_cast this
  have hv3 : v < 16 := by have := hb.2; omega
  rw [shl_at h i hi, valB, hv]
  rcases stA_bit h (6 * i + 1) with hs | hs <;> rw [hs]
  · exact or_bit ⟨i, hi⟩ ⟨v, hv3⟩ ⟨0, by decide⟩ hv2
  · exact or_bit ⟨i, hi⟩ ⟨v, hv3⟩ ⟨1, by decide⟩ hv2
theorem rd_stA (l : List S71) (j : Nat) : (rd_T71 l (j : Int)).f1 = stA l j := by simp [rd_T71, stA]
theorem boDiff_loop (a b : Int) (l l' : List S71) (hm : l.length ≤ 1000) (hl : l.length = l'.length) : ∀ (suf pre suf' pre' : List S71) (acc : List Int), l = pre ++ suf → l' = pre' ++ suf' → pre.length = pre'.length → acc.length ≤ pre.length →
    ∃ t : List Int, Ev (fun k => spec_boDifferent.l0 k acc l (l.length : Int) (pre.length : Int) a b l') t ∧ (t.length = 0 ↔ acc.length = 0 ∧ suf = suf') := by
  have hmx : l.length ≤ maxLen := by simp only [maxLen]; omega
  intro suf
  induction suf with
  | nil =>
    intro pre suf' pre' acc h1 h2 h3 h4
    subst h1 h2
    have : suf' = [] := by
      simp only [List.length_append, List.length_nil] at hl
      exact List.length_eq_zero_iff.1 (by omega)
    subst this
    exact ⟨acc, Ev.step (fun k => spec_boDifferent.l0.eq_2 ..) (ev_neg (not_lt_end _) (ev_const rfl)), by simp⟩
  | cons y suf ih =>
    intro pre suf' pre' acc h1 h2 h3 h4
    subst h1 h2
    obtain ⟨y', suf', rfl⟩ : ∃ z t, suf' = z :: t := by
      cases suf' with
      | nil => simp at hl; omega
      | cons z t => exact ⟨z, t, rfl⟩
    have hlen := hm
    simp only [List.length_append, List.length_cons] at hlen
    have hrd' : rd_T71 (pre' ++ y' :: suf') (pre.length : Int) = y' := by rw [h3]; exact rdc_mid _ _ _
    by_cases h : y = y'
    · obtain ⟨t, ht, hi⟩ := ih (pre ++ [y]) suf' (pre' ++ [y']) acc (assoc_mid _ _ _) (assoc_mid _ _ _) (by simp [h3]) (by simp; omega)
      refine ⟨t, Ev.step (fun k => spec_boDifferent.l0.eq_2 ..) (ev_pos (lt_mid _ _ _) (ev_pos (by omega) (ev_pos (lt_mid _ _ _) (ev_pos (by rw [h3]; exact lt_mid _ _ _) ?_)))), ?_⟩
      · simp only [rdc_mid, hrd', cell_ne]
        refine ev_neg (by simp [h]) ?_
        rw [next_mid _ _ _ hmx]
        exact ht
      · rw [hi, h]; simp
    · obtain ⟨t, ht, hi⟩ := ih (pre ++ [y]) suf' (pre' ++ [y']) (acc ++ [(pre.length : Int)]) (assoc_mid _ _ _) (assoc_mid _ _ _) (by simp [h3]) (by simp; omega)
      refine ⟨t, Ev.step (fun k => spec_boDifferent.l0.eq_2 ..) (ev_pos (lt_mid _ _ _) (ev_pos (by omega) (ev_pos (lt_mid _ _ _) (ev_pos (by rw [h3]; exact lt_mid _ _ _) ?_)))), ?_⟩
      · simp only [rdc_mid, hrd', cell_ne, decide_eq_false h]
        refine ev_pos rfl (ev_pos (by omega) ?_)
        rw [next_mid _ _ _ hmx]
        exact ht
      · rw [hi]
        exact ⟨fun hh => by simp at hh, fun hh => absurd (List.cons.inj hh.2).1 h⟩
theorem boDiff (a b a' b' : Int) (l l' : List S71) (hm : l.length ≤ 1000) (hl : l.length = l'.length) : ∃ t : List Int, Ev (fun k => spec_boDifferent.f k a b l a' b' l') t ∧ (t.length = 0 ↔ l = l') := by
  obtain ⟨t, h1, h2⟩ := boDiff_loop a' b' l l' hm hl l [] l' [] [] rfl rfl rfl (Nat.le_refl _)
  refine ⟨t, ?_, by rw [h2]; simp⟩
  unfold spec_boDifferent.f
  exact h1
theorem same_loop (a b a' b' : Int) (l l' : List S71) (hm : l.length ≤ maxLen) (hl : l.length = l'.length) : ∀ (suf pre suf' pre' : List S71), l = pre ++ suf → l' = pre' ++ suf' → pre.length = pre'.length →
    Ev (fun k => impl_sameBoard.l0 k (l.length : Int) (pre.length : Int) a b l a' b' l') (decide (suf = suf')) := by
  intro suf
  induction suf with
  | nil =>
    intro pre suf' pre' h1 h2 h3
    subst h1 h2
    have : suf' = [] := by
      simp only [List.length_append, List.length_nil] at hl
      exact List.length_eq_zero_iff.1 (by omega)
    subst this
    exact Ev.step (fun k => impl_sameBoard.l0.eq_2 ..) (ev_neg (not_lt_end _) (ev_const (by simp)))
  | cons y suf ih =>
    intro pre suf' pre' h1 h2 h3
    subst h1 h2
    obtain ⟨y', suf', rfl⟩ : ∃ z t, suf' = z :: t := by
      cases suf' with
      | nil => simp at hl; omega
      | cons z t => exact ⟨z, t, rfl⟩
    have hrd' : rd_T71 (pre' ++ y' :: suf') (pre.length : Int) = y' := by rw [h3]; exact rdc_mid _ _ _
    refine Ev.step (fun k => impl_sameBoard.l0.eq_2 ..) (ev_pos (lt_mid _ _ _) (ev_pos (by omega) (ev_pos (lt_mid _ _ _) (ev_pos (by rw [h3]; exact lt_mid _ _ _) ?_))))
    simp only [rdc_mid, hrd', cell_ne]
    by_cases h : y = y'
    · refine ev_neg (by simp [h]) ?_
      rw [next_mid _ _ _ hm]
      have := ih (pre ++ [y]) suf' (pre' ++ [y']) (assoc_mid _ _ _) (assoc_mid _ _ _) (by simp [h3])
      rw [show decide (y :: suf = y' :: suf') = decide (suf = suf') from decide_eq_decide.2 (by simp [h])]
      exact this
    · refine ev_pos (by simp [h]) (ev_const ?_)
      rw [show decide (y :: suf = y' :: suf') = false from decide_eq_false (by simp [h])]
theorem sameBoard (a b : Int) (l l' : List S71) (hm : l.length ≤ maxLen) (hl : l.length = l'.length) : Ev (fun k => impl_sameBoard.f k a b l a b l') (decide (l = l')) := by
  unfold impl_sameBoard.f
  refine ev_pos rfl (ev_pos rfl (Ev.step (fun k => impl_sameBoard.j0.eq_2 ..) (ev_neg (by simp [hl]) ?_)))
  exact same_loop a b a b l l' hm hl l [] l' [] rfl rfl rfl
/-- A counter: its bits and its value. -/
def CtrOk (r c : Int) (l : List S71) : Prop := BoOk r c l ∧ c = 3 ∧ r % 2 = 0 ∧ l = bcCells (valB l (r / 2).toNat) (r / 2).toNat
instance (r c : Int) (l : List S71) : Decidable (CtrOk r c l) := by unfold CtrOk; infer_instance
theorem bcValue_loop (r c : Int) (l : List S71) (h : BoOk r c l) (n : Nat) (hn : 1 ≤ n ∧ n ≤ 5) (hl : l.length = 6 * n) : ∀ (d i : Nat), i + d = n →
    Ev (fun k => spec_bcValue.l0 k n (valB l i) i r c l) (if l = bcCells (valB l n) n then ((n : Int), valB l n, true) else (0, 0, false)) := by
  intro d
  induction d with
  | zero =>
    intro i hi
    obtain rfl : i = n := by omega
    refine Ev.step (fun k => spec_bcValue.l0.eq_2 ..) (ev_neg (by omega) ?_)
    have hb : Ev (fun k => spec_bcBoard.f k (i : Int) (valB l i)) (2 * (i : Int), 3, bcCells (valB l i) i) := ⟨0, fun k _ => by show spec_bcBoard.f k (i : Int) (valB l i) = _; rw [bcBoard (i : Int) _ (by omega) k, Int.toNat_natCast]⟩
    obtain ⟨t, ht, hti⟩ := boDiff r c (2 * (i : Int)) 3 l (bcCells (valB l i) i) (by omega) (by rw [bcCells_length]; exact hl)
    refine ev_bind hb (ev_bind ht ?_)
    by_cases e : l = bcCells (valB l i) i
    · rw [if_pos e]
      have := hti.2 e
      exact ev_neg (by omega) (ev_const rfl)
    · rw [if_neg e]
      have : t.length ≠ 0 := fun h0 => e (hti.1 h0)
      exact ev_pos (by omega) (ev_const rfl)
  | succ d ih =>
    intro i hi
    have hb := valB_bound h i
    have hb1 := valB_bound h (i + 1)
    have hp := pow_small i (by omega)
    have hp1 := pow_small (i + 1) (by omega)
    have e6 : wrap64 (6 * (i : Int)) = 6 * i := wrap_id (by omega) (by omega)
    have e1 : wrap64 (6 * (i : Int) + 1) = 6 * i + 1 := wrap_id (by omega) (by omega)
    have eu : IntKind.u64.wrap (i : Int) = i := u64_bit ⟨i, by omega⟩
    refine Ev.step (fun k => spec_bcValue.l0.eq_2 ..) (ev_pos (by omega) ?_)
    simp only [e6, e1, eu]
    refine ev_pos (by omega) (ev_pos (by omega) (ev_pos (by omega) ?_))
    have er : rd_T71 l (6 * (i : Int) + 1) = rd_T71 l ((6 * i + 1 : Nat) : Int) := by congr 1
    rw [er, rd_stA, shl_at h i (by omega)]
    have ev : valB l i + stA l (6 * i + 1) * 2 ^ i = valB l (i + 1) := rfl
    rw [ev, wrap_id (x := valB l (i + 1)) (by omega) (by omega), wrap_id (x := (i : Int) + 1) (by omega) (by omega)]
    exact ih (i + 1) (by omega)
theorem bcValue (r c : Int) (l : List S71) (hm : l.length ≤ maxLen) (hr : -9223372036854775808 ≤ r ∧ r ≤ 9223372036854775807) : Ev (fun k => spec_bcValue.f k r c l) (if CtrOk r c l then (r / 2, valB l (r / 2).toNat, true) else (0, 0, false)) := by
  unfold spec_bcValue.f
  have e2 : wrap64 (Int.tdiv r 2) = Int.tdiv r 2 := by
    have := hr.1; have := hr.2
    rcases Int.le_total 0 r with h0 | h0
    · rw [Int.tdiv_eq_ediv_of_nonneg h0]; exact wrap_id (by omega) (by omega)
    · have h1 : Int.tdiv r 2 = -((-r) / 2) := by
        rw [← Int.tdiv_eq_ediv_of_nonneg (by omega), Int.neg_tdiv]; omega
      rw [h1]; exact wrap_id (by omega) (by omega)
  have no : ¬ CtrOk r c l → ∀ b, b = true → Ev (fun k => spec_bcValue.j0 k (wrap64 (Int.tdiv r 2)) b r c l) (if CtrOk r c l then (r / 2, valB l (r / 2).toNat, true) else (0, 0, false)) := by
    intro h b hb
    rw [if_neg h]
    exact Ev.step (fun k => spec_bcValue.j0.eq_2 ..) (ev_pos hb (ev_const rfl))
  refine ev_bind (boGood r c l hm) ?_
  simp only [decide_eq_true_eq]
  by_cases h : BoOk r c l
  · have hr1 := h.1
    refine ev_pos h ?_
    have e3 : Int.tdiv r 2 = r / 2 := Int.tdiv_eq_ediv_of_nonneg (by omega)
    have e4 : Int.tmod r 2 = r % 2 := Int.tmod_eq_emod_of_nonneg (by omega)
    have e23 : wrap64 (Int.tdiv r 2) = r / 2 := e2.trans e3
    simp only [bcBits, Option.bind_some, decide_eq_true_eq, e23, e4]
    simp only [e23] at no
    by_cases h2 : 1 ≤ r / 2 ∧ r / 2 ≤ 5
    · refine ev_pos h2 ?_
      by_cases h3 : r % 2 = 0
      · refine ev_pos h3 ?_
        by_cases h4 : c = 3
        · refine Ev.step (fun k => spec_bcValue.j0.eq_2 ..) (ev_neg (by simp [h4]) ?_)
          obtain ⟨n, hn⟩ := Int.eq_ofNat_of_zero_le (show 0 ≤ r / 2 by omega)
          have hl : l.length = 6 * n := by
            have := h.2.2.1; rw [h4] at this; omega
          have := bcValue_loop r c l h n (by omega) hl n 0 (by omega)
          rw [hn, Int.toNat_natCast]
          by_cases h5 : l = bcCells (valB l n) n
          · rw [if_pos h5] at this
            rw [if_pos (show CtrOk r c l from ⟨h, h4, h3, by rw [hn, Int.toNat_natCast]; exact h5⟩)]
            exact this
          · rw [if_neg h5] at this
            rw [if_neg (fun h6 : CtrOk r c l => h5 (by have := h6.2.2.2; rw [hn, Int.toNat_natCast] at this; exact this))]
            exact this
        · exact no (fun h6 => h4 h6.2.1) _ (by simpa using h4)
      · exact ev_neg h3 (no (fun h6 => h3 h6.2.2.1) _ rfl)
    · refine ev_neg h2 (no (fun h6 => ?_) _ rfl)
      have := h6.2.2.1
      omega
  · exact ev_neg h (no (fun h6 => h h6.1) _ rfl)
theorem counterValue_loop (r c : Int) (l : List S71) (h : BoOk r c l) (n : Nat) (hn : 1 ≤ n ∧ n ≤ 5) (hr : r = 2 * n) (hc : c = 3) (hl : l.length = 6 * n) : ∀ (d i : Nat), i + d = n →
    Ev (fun k => impl_CounterValue.l0 k (valB l i) i r c l) (if l = bcCells (valB l n) n then (valB l n, true) else (0, false)) := by
  intro d
  induction d with
  | zero =>
    intro i hi
    obtain rfl : i = n := by omega
    refine Ev.step (fun k => impl_CounterValue.l0.eq_2 ..) (ev_neg (by rw [wrap_id (by omega) (by omega)]; omega) ?_)
    have e : wrap64 (Int.tdiv r 2) = (i : Int) := by
      rw [Int.tdiv_eq_ediv_of_nonneg (by omega), wrap_id (by omega) (by omega)]; omega
    rw [e]
    refine ev_bind (counterBoard (i : Int) (valB l i) (by omega)) ?_
    rw [Int.toNat_natCast, hr, hc]
    refine ev_bind (sameBoard _ _ l (bcCells (valB l i) i) (by simp only [maxLen]; omega) (by rw [bcCells_length]; exact hl)) ?_
    simp only [decide_eq_true_eq]
    by_cases e : l = bcCells (valB l i) i
    · simp only [if_pos e]; exact ev_const rfl
    · simp only [if_neg e]; exact ev_const rfl
  | succ d ih =>
    intro i hi
    have e2 : wrap64 (2 * (i : Int)) = 2 * i := wrap_id (by omega) (by omega)
    have e6 : wrap64 (6 * (i : Int)) = 6 * i := wrap_id (by omega) (by omega)
    have e1 : wrap64 (6 * (i : Int) + 1) = 6 * i + 1 := wrap_id (by omega) (by omega)
    refine Ev.step (fun k => impl_CounterValue.l0.eq_2 ..) (ev_pos (by rw [e2]; omega) ?_)
    simp only [e6, e1]
    refine ev_pos (by omega) (ev_pos (by omega) (ev_pos (by omega) ?_))
    have er : rd_T71 l (6 * (i : Int) + 1) = rd_T71 l ((6 * i + 1 : Nat) : Int) := by congr 1
    rw [er, rd_stA, or_at h i (by omega), wrap_id (x := (i : Int) + 1) (by omega) (by omega)]
    exact ih (i + 1) (by omega)
theorem counterValue (r c : Int) (l : List S71) (hm : l.length ≤ maxLen) : Ev (fun k => impl_CounterValue.f k r c l) (if CtrOk r c l then (valB l (r / 2).toNat, true) else (0, false)) := by
  unfold impl_CounterValue.f
  have no : ¬ CtrOk r c l → ∀ b, b = true → Ev (fun k => impl_CounterValue.j0 k b r c l) (if CtrOk r c l then (valB l (r / 2).toNat, true) else (0, false)) := by
    intro h b hb
    rw [if_neg h]
    exact Ev.step (fun k => impl_CounterValue.j0.eq_2 ..) (ev_pos hb (ev_const rfl))
  refine ev_bind (isBoard r c l hm) ?_
  simp only [decide_eq_true_eq]
  by_cases h : BoOk r c l
  · have hr1 := h.1
    refine ev_pos h ?_
    have e4 : Int.tmod r 2 = r % 2 := Int.tmod_eq_emod_of_nonneg (by omega)
    by_cases h4 : c = 3
    · refine ev_pos h4 ?_
      rw [e4]
      by_cases h3 : r % 2 = 0
      · refine Ev.step (fun k => impl_CounterValue.j0.eq_2 ..) (ev_neg (by simp [h3]) ?_)
        obtain ⟨n, hn⟩ := Int.eq_ofNat_of_zero_le (show 0 ≤ r / 2 by omega)
        have hl : l.length = 6 * n := by
          have := h.2.2.1; rw [h4] at this; omega
        have := counterValue_loop r c l h n (by omega) (by omega) h4 hl n 0 (by omega)
        rw [hn, Int.toNat_natCast]
        by_cases h5 : l = bcCells (valB l n) n
        · rw [if_pos h5] at this
          rw [if_pos (show CtrOk r c l from ⟨h, h4, h3, by rw [hn, Int.toNat_natCast]; exact h5⟩)]
          exact this
        · rw [if_neg h5] at this
          rw [if_neg (fun h6 : CtrOk r c l => h5 (by have := h6.2.2.2; rw [hn, Int.toNat_natCast] at this; exact this))]
          exact this
      · exact no (fun h6 => h3 h6.2.2.1) _ (by simpa using h3)
    · exact ev_neg h4 (no (fun h6 => h4 h6.2.1) _ rfl)
  · exact ev_neg h (no (fun h6 => h h6.1) _ rfl)
end Go.Proofs.Ytcilbmbgdcepgaa.A
end

section
/- FnExactCounterValue: the program returns what the reference returns, for all boards. -/
namespace Go.Proofs.Ytcilbmbgdcepgaa.A
open Go.RowKit Go.Proofs.YtcilbmbgdcepgaaW.PrintWords Go.Proofs.YtcilbmbgdcepgaaW.PrintLast Go.Proofs.YtcilbmbgdcepgaaW.PrintMore Go.Proofs.Ytcilbmbgdcepgaa.P Go.Proofs.Ytcilbmbgdcepgaa.T Go.Proofs.Ytcilbmbgdcepgaa.Op
set_option linter.unusedVariables false

theorem lawFnExactCounterValue : fnExactCounterValue.Pure := by
  intro r c l hr hc hl
  refine Ev.rounds ?_
  unfold laws_FnExactCounterValue.f
  refine ev_bindc (szBo r c l 1048576 (by omega) hl.1) ?_
  by_cases h : (1048576 : Int) - (l.length : Int) < 0
  · rw [if_pos h]; exact ev_const rfl
  have hlen : l.length ≤ 1048576 := by omega
  have hml : (l.map cpC).length ≤ maxLen := by simp [maxLen]; omega
  have hto := toBo r c l hlen
  have hs := bcValue r c (l.map cpC) hml (wf_lo hr)
  have hi := counterValue r c (l.map cpC) hml
  rw [if_neg h]
  refine ev_neg h (ev_bind hto ?_)
  have hs2 : Ev (fun k => spec_CounterValue.f k r c (l.map cpC)) (if CtrOk r c (l.map cpC) then (valB (l.map cpC) (r / 2).toNat, true) else (0, false)) := by
    unfold spec_CounterValue.f
    refine ev_bind hs (ev_const ?_)
    by_cases e : CtrOk r c (l.map cpC) <;> simp [e]
  refine ev_bind hs2 (ev_bind hto (ev_bind hi (ev_pos rfl (Ev.step (fun k => laws_FnExactCounterValue.j0.eq_2 ..) (ev_neg (by simp) (ev_bind hto (ev_bind (eqBo _ _ _ hml) (ev_const rfl))))))))
end Go.Proofs.Ytcilbmbgdcepgaa.A
namespace Go.Proofs.Ytcilbmbgdcepgaa
/-- The row. -/
theorem fnExactCounterValue_holds : Rows.FnExactCounterValueSaid := fnExactCounterValue.over A.lawFnExactCounterValue
end Go.Proofs.Ytcilbmbgdcepgaa
end
