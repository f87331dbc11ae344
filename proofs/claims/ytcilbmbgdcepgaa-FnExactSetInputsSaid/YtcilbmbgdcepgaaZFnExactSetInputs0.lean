/- FnExactSetInputs: texts of this claim in one: Op, RowFnExactSetInputs, T, ABase, ABo, ASet, LawSetInputs. -/
import Derived.Deep.Slices
import Derived.ChangeSame
import Derived.ChangeArms
import Derived.Test.YtcilbmbgdcepgaaWWords
import Derived.Test.YtcilbmbgdcepgaaRows
import Derived.Test.YtcilbmbgdcepgaaPx69
import Derived.WalkKit
import Derived.ProofKit
import Derived.OpenShut
import Derived.ShutString
import Derived.ChangeOld
import Derived.Below
import Derived.SizedLaws
import Derived.Test.YtcilbmbgdcepgaaWMore
import Derived.Test.YtcilbmbgdcepgaaPx2
import Derived.Test.YtcilbmbgdcepgaaPx48
import Derived.Test.YtcilbmbgdcepgaaPx53
import Derived.Test.YtcilbmbgdcepgaaPx61
import Derived.Test.YtcilbmbgdcepgaaPx63
import Derived.Test.YtcilbmbgdcepgaaPx35
import Derived.Test.YtcilbmbgdcepgaaPx36
import Derived.Test.YtcilbmbgdcepgaaPx29
import Derived.Test.YtcilbmbgdcepgaaPx30
import Derived.Test.YtcilbmbgdcepgaaPx22
import Derived.Test.YtcilbmbgdcepgaaPx23
import Derived.Test.YtcilbmbgdcepgaaPx24
import Derived.Test.YtcilbmbgdcepgaaPx25
import Derived.Test.YtcilbmbgdcepgaaPx26
import Derived.Test.YtcilbmbgdcepgaaPx27
import Derived.Test.YtcilbmbgdcepgaaPx5
import Derived.Test.YtcilbmbgdcepgaaPx6
import Derived.Test.YtcilbmbgdcepgaaPx16
import Derived.Test.YtcilbmbgdcepgaaPx7
import Derived.Test.YtcilbmbgdcepgaaPx17
import Derived.Test.YtcilbmbgdcepgaaPx18
import Derived.Test.YtcilbmbgdcepgaaPx65
import Derived.Test.YtcilbmbgdcepgaaPx66
import Derived.Test.YtcilbmbgdcepgaaPx67
import Derived.Test.YtcilbmbgdcepgaaPx68
section
/- Opens an argument that a row reads as data into the cells and lists that a contract speaks of: whole numbers, slices, structs of two and three fields. -/
namespace Go.Proofs.Ytcilbmbgdcepgaa.Op
open Go.ChangeShapes Go.WideShapes Go.Deep Go.RowKit Go.Proofs.YtcilbmbgdcepgaaW.PrintWords
set_option linter.unusedVariables false

/-- What reads as data of type t is of kind d, and meets wf. -/
def Opens (P : Program) (t : TypeId) {α : Type} (d : Kd α) (wf : α → Prop) : Prop :=
  ∀ {H : Type} {enc : TypeId × Value → H} {w : World} {base : Nat} {spare : Nat → Bool} {held : Bool} {fuel : Nat} {cs : List Value} {x : DataW H × List MemPlace},
    DataW.trod enc P w base spare held fuel t cs = some x → ∃ a, d.K w a cs ∧ wf a

def WNum (k : IntKind) (n : Int) : Prop := (Lit.int k n).wf = true
abbrev WInt : Int → Prop := WNum .i64
def WList {α : Type} (wf : α → Prop) (l : List α) : Prop := l.length ≤ maxLen ∧ ∀ a ∈ l, wf a

theorem opens_int {P : Program} {t : TypeId} {k : IntKind} (h : P.underlying t = some (.int k)) : Opens P t (Kd.int k) (WNum k) := by
  intro H enc w base spare held fuel cs x ht
  obtain ⟨n, rfl, _, hw⟩ := DataW.trod_int h ht
  exact ⟨n, rfl, hw⟩

theorem opens_slice {P : Program} {t e : TypeId} {α : Type} {d : Kd α} {wf : α → Prop} (q : Nat) (h : P.underlying t = some (.slice e)) (hc : P.cellsOf e = d.sz) (o : Opens P e d wf) :
    Opens P t (Kd.slice q d) (WList wf) := by
  intro H enc w base spare held fuel cs x ht
  rcases open_slice h ht with ⟨rfl, _⟩ | ⟨a, len, cap, m, n, D, Pl, rfl, hb, hl, hm, hmm, hx, hi⟩
  · exact ⟨[], ⟨none, 0, rfl, Nat.le_refl _, rfl, by simp, fun hn => by simp at hn⟩, by simp [WList]⟩
  · have hlm : len ≤ m := by rw [hmm]; split <;> omega
    have each : ∀ i, i < len → ∃ y cs', w.cells? base (a.add (i * d.sz)) d.sz = some cs' ∧ d.K w y cs' ∧ wf y := by
      intro i hil
      obtain ⟨cs', h1, h2⟩ := hi i (by omega)
      obtain ⟨y, hk, hw⟩ := o h2
      rw [hc] at h1
      exact ⟨y, cs', h1, hk, hw⟩
    have build : ∀ k, k ≤ len → ∃ ys : List α, ys.length = k ∧ (∀ y ∈ ys, wf y) ∧ ∀ j y, ys[j]? = some y → ∃ c, c.length = d.sz ∧ d.K w y c ∧ ∀ i u, c[i]? = some u → w.cell? (a.add (j * d.sz + i)) = some u := by
      intro k
      induction k with
      | zero => exact fun _ => ⟨[], rfl, by simp, by simp⟩
      | succ k ih =>
        intro hk
        obtain ⟨ys, hlen, hwf, hys⟩ := ih (by omega)
        obtain ⟨y, cs', h1, h2, h3⟩ := each k (by omega)
        obtain ⟨_, hcl, hat⟩ := World.cells?_some h1
        refine ⟨ys ++ [y], by simp [hlen], ?_, ?_⟩
        · intro z hz
          rcases List.mem_append.1 hz with hz | hz
          · exact hwf z hz
          · rw [List.mem_singleton.1 hz]; exact h3
        · intro j z hj
          by_cases hjk : j < k
          · rw [List.getElem?_append_left (by omega)] at hj
            exact hys j z hj
          · have hjl : j < (ys ++ [y]).length := (List.getElem?_eq_some_iff.1 hj).1
            simp only [List.length_append, List.length_singleton, hlen] at hjl
            obtain rfl : j = k := by omega
            rw [List.getElem?_append_right (by omega), hlen, Nat.sub_self] at hj
            obtain rfl : y = z := by simpa using hj
            refine ⟨cs', hcl, h2, fun i u hu => ?_⟩
            have hil : i < d.sz := by
              have := (List.getElem?_eq_some_iff.1 hu).1
              omega
            have := hat i hil
            rw [Go.Deep.add_add] at this
            rw [this, hu]
    obtain ⟨ys, hlen, hwf, hys⟩ := build len (Nat.le_refl _)
    have hmx : len ≤ maxLen := by omega
    exact ⟨ys, ⟨some a, cap, by rw [hlen], by rw [hlen]; exact hl, rfl, by rw [hlen]; exact hmx, fun _ => ⟨a, rfl, hys⟩⟩, by rw [hlen]; exact hmx, hwf⟩

theorem opens_iso {P : Program} {t : TypeId} {α β : Type} {d : Kd α} {wf : α → Prop} (f : β → α) (g : α → β) (hg : ∀ a, f (g a) = a) (o : Opens P t d wf) : Opens P t (Kd.iso d f) (fun b => wf (f b)) := by
  intro H enc w base spare held fuel cs x ht
  obtain ⟨a, h1, h2⟩ := o ht
  exact ⟨g a, by show d.K w (f (g a)) cs; rw [hg]; exact h1, by show wf (f (g a)); rw [hg]; exact h2⟩

theorem opens_two {P : Program} {t : TypeId} {f0 f1 : Field} {α β : Type} {a : Kd α} {b : Kd β} {wa : α → Prop} {wb : β → Prop}
    (h : P.underlying t = some (.struct #[f0, f1])) (hc : P.cellsOf t = a.sz + b.sz) (o0 : f0.offset = 0) (o1 : f1.offset = a.sz) (c0 : P.cellsOf f0.type = a.sz) (c1 : P.cellsOf f1.type = b.sz)
    (oa : Opens P f0.type a wa) (ob : Opens P f1.type b wb) : Opens P t (Kd.pair a b) (fun x => wa x.1 ∧ wb x.2) := by
  intro H enc w base spare held fuel cs x ht
  obtain ⟨xs, n, _, _, hlen, hxl, hf⟩ := DataW.trod_struct h ht
  have hx2 : xs.length = 2 := hxl
  have h0 := hf 0 f0 rfl
  have h1 := hf 1 f1 rfl
  rw [List.getElem?_eq_getElem (by omega)] at h0 h1
  obtain ⟨y0, k0, w0⟩ := oa h0
  obtain ⟨y1, k1, w1⟩ := ob h1
  refine ⟨(y0, y1), ⟨_, _, ?_, k0, k1⟩, w0, w1⟩
  rw [hc] at hlen
  rw [o0, o1, c0, c1, List.drop_zero]
  rw [List.take_of_length_le (l := cs.drop a.sz) (by simp; omega), List.take_append_drop]

theorem opens_three {P : Program} {t : TypeId} {f0 f1 f2 : Field} {α β γ : Type} {a : Kd α} {b : Kd β} {c : Kd γ} {wa : α → Prop} {wb : β → Prop} {wc : γ → Prop}
    (h : P.underlying t = some (.struct #[f0, f1, f2])) (hc : P.cellsOf t = a.sz + (b.sz + c.sz)) (o0 : f0.offset = 0) (o1 : f1.offset = a.sz) (o2 : f2.offset = a.sz + b.sz) (c0 : P.cellsOf f0.type = a.sz) (c1 : P.cellsOf f1.type = b.sz) (c2 : P.cellsOf f2.type = c.sz)
    (oa : Opens P f0.type a wa) (ob : Opens P f1.type b wb) (oc : Opens P f2.type c wc) : Opens P t (Kd.pair a (Kd.pair b c)) (fun x => wa x.1 ∧ wb x.2.1 ∧ wc x.2.2) := by
  intro H enc w base spare held fuel cs x ht
  obtain ⟨xs, n, _, _, hlen, hxl, hf⟩ := DataW.trod_struct h ht
  have hx2 : xs.length = 3 := hxl
  have h0 := hf 0 f0 rfl
  have h1 := hf 1 f1 rfl
  have h2 := hf 2 f2 rfl
  rw [List.getElem?_eq_getElem (by omega)] at h0 h1 h2
  obtain ⟨y0, k0, w0⟩ := oa h0
  obtain ⟨y1, k1, w1⟩ := ob h1
  obtain ⟨y2, k2, w2⟩ := oc h2
  rw [hc] at hlen
  refine ⟨(y0, y1, y2), ⟨_, cs.drop a.sz, ?_, k0, ⟨_, _, ?_, k1, k2⟩⟩, w0, w1, w2⟩
  · rw [o0, c0, List.drop_zero, List.take_append_drop]
  · rw [o1, o2, c1, c2]
    rw [List.take_of_length_le (l := cs.drop (a.sz + b.sz)) (by simp; omega), ← List.drop_drop, List.take_append_drop]

/-- A slice among the arguments. -/
theorem open_arg_slice {P : Program} {t : TypeId} {α : Type} {d : Kd α} {wf : α → Prop} {q : Nat} (o : Opens P t (Kd.slice q d) (WList wf)) {H : Type} {enc : TypeId × Value → H} {w : World} {base : Nat} {spare : Nat → Bool} {held : Bool}
    {A : Option Addr} {len cap : Nat} {D : DataW H} {ps : List MemPlace} (h : DataW.Trod enc P w base spare held t (.slice A len cap) D ps) :
    ∃ l : List α, len = l.length ∧ l.length ≤ cap ∧ d.C w A l.length l ∧ WList wf l := by
  obtain ⟨fuel, hf⟩ := h
  obtain ⟨l, ⟨A', c, he, hl, hC⟩, hw⟩ := o hf
  simp only [Value.cells, List.cons.injEq, Value.slice.injEq, and_true] at he
  obtain ⟨rfl, rfl, rfl⟩ := he
  exact ⟨l, rfl, hl, hC, hw⟩
end Go.Proofs.Ytcilbmbgdcepgaa.Op
end

section
/- FnExactSetInputs: the program and the reference agree for all arguments: the row over the pure statement. -/
namespace Go.Proofs.Ytcilbmbgdcepgaa.fnExactSetInputs
open Go.ChangeShapes Go.WideShapes Go.ChangeAt Go.RowKit
open Go.ChangeMaps (open_string shut_string)
open Go.Proofs.Ytcilbmbgdcepgaa.Op
set_option linter.unusedVariables false
def Pure : Prop := ∀ (a0_0 : Int) (a0_1 : Int) (l0_2 : (List P.S96)) (l1 : (List Int)), (WNum .i64) a0_0 → (WNum .i64) a0_1 → (WList (fun x : P.S96 => (WNum .i64) x.f0 ∧ (WNum .i64) x.f1)) l0_2 → (WList (WNum .i64)) l1 → ∃ k, P.lw.f k a0_0 a0_1 l0_2 l1 = some true
theorem own : ownKnob Try.prog.godebug = none := by kernel_rfl
theorem laidOut : laidOutB Try.prog = true := by kernel_rfl
theorem ty3 : Opens Try.prog 3 (Go.Proofs.YtcilbmbgdcepgaaW.PrintWords.Kd.int .i64) (WNum .i64) := opens_int Try.underlying3
theorem ty96 : Opens Try.prog 96 P.k96 (fun x : P.S96 => (WNum .i64) x.f0 ∧ (WNum .i64) x.f1) := opens_iso (fun x : P.S96 => (x.f0, x.f1)) (fun a => ⟨a.1, a.2⟩) (fun _ => rfl) (opens_two Try.underlying96 (by kernel_rfl) (by kernel_rfl) (by kernel_rfl) (by kernel_rfl) (by kernel_rfl) ty3 ty3)
theorem ty30 : Opens Try.prog 30 (Go.Proofs.YtcilbmbgdcepgaaW.PrintWords.Kd.slice 96 P.k96) (WList (fun x : P.S96 => (WNum .i64) x.f0 ∧ (WNum .i64) x.f1)) := opens_slice 96 Try.underlying30 (by kernel_rfl) ty96
theorem tw32 : Opens Try.prog 32 (Go.Proofs.YtcilbmbgdcepgaaW.PrintWords.Kd.pair (Go.Proofs.YtcilbmbgdcepgaaW.PrintWords.Kd.int .i64) (Go.Proofs.YtcilbmbgdcepgaaW.PrintWords.Kd.pair (Go.Proofs.YtcilbmbgdcepgaaW.PrintWords.Kd.int .i64) (Go.Proofs.YtcilbmbgdcepgaaW.PrintWords.Kd.slice 96 P.k96))) (fun x : Int × Int × (List P.S96) => (WNum .i64) x.1 ∧ (WNum .i64) x.2.1 ∧ (WList (fun x : P.S96 => (WNum .i64) x.f0 ∧ (WNum .i64) x.f1)) x.2.2) := opens_three Try.underlying32 (by kernel_rfl) (by kernel_rfl) (by kernel_rfl) (by kernel_rfl) (by kernel_rfl) (by kernel_rfl) (by kernel_rfl) ty3 ty3 ty30
theorem ty39 : Opens Try.prog 39 (Go.Proofs.YtcilbmbgdcepgaaW.PrintWords.Kd.slice 3 (Go.Proofs.YtcilbmbgdcepgaaW.PrintWords.Kd.int .i64)) (WList (WNum .i64)) := opens_slice 3 Try.underlying39 (by kernel_rfl) ty3
set_option maxRecDepth 100000 in
theorem lifted (pure : Pure) (os : Os) (started : os.Started) (H : Type) (enc : TypeId × Value → H) :
    ReturnsInHanded {} Try.checked os 8 .any (Rows.fnExactSetInputsSpec.pre6 enc Try.prog Try.f8 Rows.fnExactSetInputsRow.domain false) (Rows.fnExactSetInputsSpec.post enc Try.prog Try.f8 false true false false) := by
  refine returnsInHanded_of_change_sized (C := Try.checked) own started (by kernel_rfl) Try.func8
    (ChangeSpec.witness6 (enc := enc) (C := Try.checked) false ⟨#[], #[.agg #[.int .i64 0, .int .i64 0, .slice none 0 0], .slice none 0 0], []⟩ 8 (by kernel_rfl) (by kernel_rfl) (by kernel_rfl) (by kernel_rfl)) ?_
  intro W base args ds gs before hval0 hW hcnd hsz0 _
  have hsz : (DataW.weightsEach Try.prog (Try.f8.params.toList ++ Rows.fnExactSetInputsSpec.plain.varTypes Try.prog) (ds ++ gs)).all (· ≤ reachBytes) = true := hsz0
  have hval : ∀ (j : Nat) t v, Try.f8.params[j]? = some t → args[j]? = some v → Value.okWide Try.prog W .any base t v := hval0
  have hW' := hW
  obtain ⟨p, q, hA0, hV, rfl, hfz, hnd⟩ := hW
  have hA : DataW.TrodAll enc Try.prog W 0 (fun _ => true) true Try.f8.params.toList args.toList ds p := hA0
  rw [Try.params8] at hA hval hsz
  obtain ⟨v0, vs0, d0, ds0, p0, q0, hargs, rfl, rfl, h0, r0⟩ := trodAll_cons hA
  obtain ⟨v1, vs1, d1, ds1, p1, q1, rfl, rfl, rfl, h1, r1⟩ := trodAll_cons r0
  obtain ⟨rfl, rfl, rfl⟩ := trodAll_nil r1
  obtain rfl : args = #[v0, v1] := by cases args; simp_all
  obtain ⟨rfl, rfl⟩ := trodVars_none hV
  have k0 := h0
  have lt0 : ∀ x ∈ p0, x.block < W.heap.size := by obtain ⟨m, hm⟩ := k0; exact DataW.trod_lt m _ _ _ hm
  obtain ⟨cs0, rfl, _⟩ := okWide_struct Try.underlying32 (hval 0 32 v0 rfl rfl)
  obtain ⟨csl0⟩ := cs0
  obtain ⟨fu0, hf0⟩ := h0
  obtain ⟨⟨a0_0, a0_1, l0_2⟩, ⟨x0_0, xr0, ex0, e0_0, ⟨x0_1, x0_2, er0, e0_1, ⟨A0_2, c0_2, e0_2, hc0_2, hC0_2⟩⟩⟩, ⟨w0_0, w0_1, w0_2⟩⟩ := tw32 hf0
  replace e0_0 : x0_0 = [Value.int .i64 a0_0] := e0_0
  replace e0_1 : x0_1 = [Value.int .i64 a0_1] := e0_1
  replace e0_2 : x0_2 = [Value.slice A0_2 l0_2.length c0_2] := e0_2
  replace hc0_2 : l0_2.length ≤ c0_2 := hc0_2
  replace hC0_2 : Go.Proofs.YtcilbmbgdcepgaaW.PrintWords.Kd.C P.k96 W A0_2 l0_2.length l0_2 := hC0_2
  replace w0_0 : (WNum .i64) a0_0 := w0_0
  replace w0_1 : (WNum .i64) a0_1 := w0_1
  replace w0_2 : (WList (fun x : P.S96 => (WNum .i64) x.f0 ∧ (WNum .i64) x.f1)) l0_2 := w0_2
  subst e0_1 e0_2 er0 e0_0 ex0
  have k1 := h1
  have lt1 : ∀ x ∈ p1, x.block < W.heap.size := by obtain ⟨m, hm⟩ := k1; exact DataW.trod_lt m _ _ _ hm
  obtain ⟨A1, len1, cap1, rfl⟩ := okWide_slice Try.underlying39 (hval 1 39 v1 rfl rfl)
  obtain ⟨l1, rfl, hc1, hC1, w1⟩ := open_arg_slice ty39 h1
  clear hA0 hval0 hsz0 hsz
  obtain ⟨k, hk⟩ := pure a0_0 a0_1 l0_2 l1 w0_0 w0_1 w0_2 w1
  refine (P.lw.calls k a0_0 a0_1 _ _ l0_2 _ _ l1 true W hC0_2 hc0_2 hC1 hc1 hk).mono fun e W' ⟨he, bel⟩ => ?_
  subst he
  exact ⟨_, rfl, _, _, _, [], _, [], hW', trodAll_mk1 (shut_bool Try.underlying4 _), (trodAll_cons_mk (Below.trod laidOut (by kernel_rfl) (of_decide_eq_true (by kernel_rfl)) k0 bel lt0) (trodAll_cons_mk (Below.trod laidOut (by kernel_rfl) (of_decide_eq_true (by kernel_rfl)) k1 bel lt1) trodAll_mk0)), rfl, bel.frame _, fun h => by cases h⟩
theorem over (pure : Pure) : Rows.fnExactSetInputsRow.holds Try.pinned (OpenSpec.ofChange Rows.fnExactSetInputsSpec) :=
  OpenClaim.holds_of_wide 8 Try.f8 rfl rfl rfl rfl rfl rfl rfl ⟨rfl, rfl, rfl, rfl, rfl⟩ rfl rfl rfl rfl rfl (by kernel_rfl) Try.func8 (by kernel_rfl)
    (of_decide_eq_true (by kernel_rfl)) (by unfold Func.isWrapper; first | (rw [if_pos (by decide +kernel)]; kernel_rfl) | (rw [if_neg (by decide +kernel)]; exact ⟨rfl, rfl⟩))
    (fun os started H enc _ => lifted pure os started H enc)
end Go.Proofs.Ytcilbmbgdcepgaa.fnExactSetInputs
end

section
/- Small laws on rounds, wrapped sums and reading of lists, for the plain laws of this seat. -/
namespace Go.Proofs.Ytcilbmbgdcepgaa.T
open Go.RowKit Go.Proofs.YtcilbmbgdcepgaaW.PrintWords Go.Proofs.YtcilbmbgdcepgaaW.PrintLast Go.Proofs.YtcilbmbgdcepgaaW.PrintMore
set_option linter.unusedVariables false

theorem wrap_id {x : Int} (h1 : -9223372036854775808 ≤ x) (h2 : x ≤ 9223372036854775807) : wrap64 x = x := by
  unfold wrap64; omega
theorem wf_lo {n : Int} (h : (Lit.int .i64 n).wf = true) : -9223372036854775808 ≤ n ∧ n ≤ 9223372036854775807 := by
  simp [Lit.wf, IntKind.min, IntKind.max, IntKind.signed, IntKind.bits] at h
  omega

theorem ev_some {α : Type} (r : α) : Ev (fun _ => some r) r := Ev.now r
/-- Rounds that are not used. -/
theorem ev_const {α : Type} {g : Option α} {r : α} (h : g = some r) : Ev (fun _ => g) r := by
  subst h; exact Ev.now r
theorem ev_bind {α β : Type} {g : Nat → Option α} {f : Nat → α → Option β} {a : α} {r : β} (h : Ev g a) (k : Ev (fun n => f n a) r) : Ev (fun n => (g n).bind (f n)) r := Ev.bind h k
theorem ev_bindc {α β : Type} {g : Option α} {f : Nat → α → Option β} {a : α} {r : β} (h : g = some a) (k : Ev (fun n => f n a) r) : Ev (fun n => g.bind (f n)) r := by
  subst h; exact k
theorem ev_pos {α : Type} {c : Prop} [Decidable c] {g f : Nat → Option α} {r : α} (h : c) (k : Ev g r) : Ev (fun n => if c then g n else f n) r := by
  simp only [if_pos h]; exact k
theorem ev_neg {α : Type} {c : Prop} [Decidable c] {g f : Nat → Option α} {r : α} (h : ¬ c) (k : Ev f r) : Ev (fun n => if c then g n else f n) r := by
  simp only [if_neg h]; exact k
theorem ev_ite {α : Type} {c : Prop} [Decidable c] {g f : Nat → Option α} {a b : α} (h : c → Ev g a) (k : ¬ c → Ev f b) : Ev (fun n => if c then g n else f n) (if c then a else b) := by
  by_cases hc : c
  · simp only [if_pos hc]; exact h hc
  · simp only [if_neg hc]; exact k hc
theorem ev_uniq {α : Type} {g : Nat → Option α} {a b : α} (h : Ev g a) (k : Ev g b) : a = b := by
  obtain ⟨K, h⟩ := h; obtain ⟨L, k⟩ := k
  have h1 := h (K + L) (by omega); have h2 := k (K + L) (by omega)
  rw [h1] at h2; exact Option.some.inj h2

theorem toNat_len {α : Type} (pre : List α) : ((pre.length : Int)).toNat = pre.length := by simp
theorem getD_mid {α : Type} (pre : List α) (y : α) (suf : List α) (z : α) : (pre ++ y :: suf).getD ((pre.length : Int)).toNat z = y := by simp
theorem lt_mid {α : Type} (pre : List α) (y : α) (suf : List α) : (pre.length : Int) < ((pre ++ y :: suf).length : Int) := by simp; omega
theorem not_lt_end {α : Type} (pre : List α) : ¬ (pre.length : Int) < ((pre ++ []).length : Int) := by simp
theorem next_mid {α : Type} (pre : List α) (y : α) (suf : List α) (h : (pre ++ y :: suf).length ≤ maxLen) : wrap64 ((pre.length : Int) + 1) = ((pre ++ [y]).length : Int) := by
  simp only [List.length_append, List.length_cons, List.length_nil, maxLen] at h ⊢
  rw [wrap_id (by omega) (by omega)]; omega
theorem assoc_mid {α : Type} (pre : List α) (y : α) (suf : List α) : pre ++ y :: suf = (pre ++ [y]) ++ suf := by simp
theorem set_mid {α : Type} (pre : List α) (y y' : α) (suf : List α) : (pre ++ y :: suf).set ((pre.length : Int)).toNat y' = (pre ++ [y']) ++ suf := by
  simp
end Go.Proofs.Ytcilbmbgdcepgaa.T
end

section
/- What the printed helpers on numbers and on lists of numbers come to. -/
namespace Go.Proofs.Ytcilbmbgdcepgaa.A
open Go.RowKit Go.Proofs.YtcilbmbgdcepgaaW.PrintWords Go.Proofs.YtcilbmbgdcepgaaW.PrintLast Go.Proofs.YtcilbmbgdcepgaaW.PrintMore Go.Proofs.Ytcilbmbgdcepgaa.P Go.Proofs.Ytcilbmbgdcepgaa.T
set_option linter.unusedVariables false
set_option linter.unusedSimpArgs false

theorem rd_mid (pre : List Int) (y : Int) (suf : List Int) : rd (pre ++ y :: suf) (pre.length : Int) = y := by simp [rd]
/-- m, m + 1, .. -/
def iota : Int → Nat → List Int
  | _, 0 => []
  | m, n + 1 => m :: iota (m + 1) n
theorem iota_length (n : Nat) : ∀ m, (iota m n).length = n := by
  induction n with
  | zero => intro m; rfl
  | succ n ih => intro m; simp [iota, ih]
theorem in_f (a lo hi : Int) : spec_l1In.f a lo hi = some (decide (lo ≤ a ∧ a ≤ hi)) := by
  unfold spec_l1In.f
  by_cases h : a ≥ lo
  · rw [if_pos h]; simp [show lo ≤ a from h]
  · rw [if_neg h]; simp; omega
theorem toInts_loop (l : List Int) : ∀ (suf pre qsuf : List Int), l = pre ++ suf → l.length ≤ maxLen → qsuf.length = suf.length →
    Ev (fun k => laws_toIntS.l0 k l (pre ++ qsuf) (pre.length : Int)) l := by
  intro suf
  induction suf with
  | nil =>
    intro pre qsuf hl hm h2
    subst hl
    obtain rfl : qsuf = [] := List.length_eq_zero_iff.1 h2
    refine Ev.step (fun k => laws_toIntS.l0.eq_2 ..) ?_
    exact ev_neg (not_lt_end _) (ev_const rfl)
  | cons y suf ih =>
    intro pre qsuf hl hm h2
    subst hl
    obtain ⟨z, qsuf, rfl⟩ : ∃ z t, qsuf = z :: t := by cases qsuf with | nil => simp at h2 | cons z t => exact ⟨z, t, rfl⟩
    refine Ev.step (fun k => laws_toIntS.l0.eq_2 ..) ?_
    refine ev_pos (lt_mid _ _ _) (ev_pos (by omega) (ev_pos (lt_mid _ _ _) ?_))
    rw [next_mid _ _ _ hm, set_mid, rd_mid]
    exact ih (pre ++ [y]) qsuf (assoc_mid _ _ _) hm (by simpa using h2)
theorem toInts (l : List Int) (h : l.length ≤ 1048576) : Ev (fun k => laws_toIntS.f k l) l := by
  have := toInts_loop l l [] (List.replicate l.length 0) rfl (by simp only [maxLen]; omega) (by simp)
  unfold laws_toIntS.f
  refine ev_pos (by omega) (ev_pos (by simp; omega) ?_)
  simpa using this
theorem eqInts_loop (l : List Int) : ∀ (suf pre : List Int), l = pre ++ suf → l.length ≤ maxLen → Ev (fun k => laws_eqIntS.l0 k l l (pre.length : Int)) true := by
  intro suf
  induction suf with
  | nil =>
    intro pre hl hm
    subst hl
    refine Ev.step (fun k => laws_eqIntS.l0.eq_2 ..) ?_
    exact ev_neg (not_lt_end _) (ev_const rfl)
  | cons y suf ih =>
    intro pre hl hm
    subst hl
    refine Ev.step (fun k => laws_eqIntS.l0.eq_2 ..) ?_
    refine ev_pos (lt_mid _ _ _) (ev_pos (by omega) (ev_pos (lt_mid _ _ _) (ev_pos rfl ?_)))
    rw [next_mid _ _ _ hm]
    exact ih (pre ++ [y]) (assoc_mid _ _ _) hm
theorem eqInts (l : List Int) (h : l.length ≤ maxLen) : Ev (fun k => laws_eqIntS.f k l l) true := by
  unfold laws_eqIntS.f
  exact ev_pos rfl (eqInts_loop l l [] rfl h)
theorem markInts_loop : ∀ (suf pre : List Int) (m : Int), (pre ++ suf).length ≤ maxLen → 0 ≤ m → m + (suf.length : Int) ≤ 9223372036854775807 →
    Ev (fun k => laws_markIntS.l0 k (pre ++ suf) m (pre.length : Int)) (m + (suf.length : Int), pre ++ iota m suf.length) := by
  intro suf
  induction suf with
  | nil =>
    intro pre m hm h0 h1
    refine Ev.step (fun k => laws_markIntS.l0.eq_2 ..) ?_
    exact ev_neg (not_lt_end _) (ev_const (by simp [iota]))
  | cons y suf ih =>
    intro pre m hm h0 h1
    simp only [List.length_cons, Int.natCast_add, Int.natCast_one] at h1
    refine Ev.step (fun k => laws_markIntS.l0.eq_2 ..) ?_
    refine ev_pos (lt_mid _ _ _) (ev_pos (by omega) ?_)
    rw [next_mid _ _ _ hm, set_mid, wrap_id (x := m + 1) (by omega) (by omega)]
    have := ih (pre ++ [m]) (m + 1) (by simpa using hm) (by omega) (by omega)
    rw [show ((pre ++ [m]).length : Int) = ((pre ++ [y]).length : Int) by simp] at this
    rw [show (m + ((y :: suf).length : Int), pre ++ iota m (y :: suf).length) = (m + 1 + (suf.length : Int), pre ++ [m] ++ iota (m + 1) suf.length) by simp [iota]; omega]
    exact this
theorem markInts (l : List Int) (m : Int) (h : l.length ≤ maxLen) (h0 : 0 ≤ m) (h1 : m + (l.length : Int) ≤ 9223372036854775807) : Ev (fun k => laws_markIntS.f k l m) (m + (l.length : Int), iota m l.length) := by
  unfold laws_markIntS.f
  exact markInts_loop l [] m h h0 h1
theorem l1All_loop (lo hi : Int) (l : List Int) (hm : l.length ≤ maxLen) : ∀ (suf pre : List Int), l = pre ++ suf →
    Ev (fun k => spec_l1All.l0 k lo hi l (l.length : Int) (pre.length : Int)) (decide (∀ x ∈ suf, lo ≤ x ∧ x ≤ hi)) := by
  intro suf
  induction suf with
  | nil =>
    intro pre hl
    subst hl
    refine Ev.step (fun k => spec_l1All.l0.eq_2 ..) ?_
    exact ev_neg (not_lt_end _) (ev_const (by simp))
  | cons y suf ih =>
    intro pre hl
    subst hl
    refine Ev.step (fun k => spec_l1All.l0.eq_2 ..) ?_
    refine ev_pos (lt_mid _ _ _) (ev_pos (by omega) (ev_pos (lt_mid _ _ _) ?_))
    simp only [in_f, rd_mid, Option.bind_some, decide_eq_true_eq]
    by_cases h : lo ≤ y ∧ y ≤ hi
    · refine ev_pos h ?_
      rw [next_mid _ _ _ hm]
      have := ih (pre ++ [y]) (assoc_mid _ _ _)
      rw [show decide (∀ x ∈ y :: suf, lo ≤ x ∧ x ≤ hi) = decide (∀ x ∈ suf, lo ≤ x ∧ x ≤ hi) by rw [decide_eq_decide]; simp [h]]
      exact this
    · refine ev_neg h (ev_const ?_)
      rw [show decide (∀ x ∈ y :: suf, lo ≤ x ∧ x ≤ hi) = false from decide_eq_false (fun hh => h (hh y List.mem_cons_self))]
theorem l1All (l : List Int) (lo hi : Int) (hm : l.length ≤ maxLen) : Ev (fun k => spec_l1All.f k l lo hi) (decide (∀ x ∈ l, lo ≤ x ∧ x ≤ hi)) := by
  unfold spec_l1All.f
  exact l1All_loop lo hi l hm l [] rfl
end Go.Proofs.Ytcilbmbgdcepgaa.A
end

section
/- What the printed functions on cells and boards come to: copies, comparison, marks, and the tests whether a board is valid. -/
namespace Go.Proofs.Ytcilbmbgdcepgaa.A
open Go.RowKit Go.Proofs.YtcilbmbgdcepgaaW.PrintWords Go.Proofs.YtcilbmbgdcepgaaW.PrintLast Go.Proofs.YtcilbmbgdcepgaaW.PrintMore Go.Proofs.Ytcilbmbgdcepgaa.P Go.Proofs.Ytcilbmbgdcepgaa.T
set_option linter.unusedVariables false
set_option linter.unusedSimpArgs false

theorem rdc_mid (pre : List S71) (y : S71) (suf : List S71) : rd_T71 (pre ++ y :: suf) (pre.length : Int) = y := by simp [rd_T71]
/-- The copy of one cell. -/
def cpC (x : S96) : S71 := ⟨x.f0, x.f1⟩
theorem toCells_loop (l : List S96) : ∀ (suf pre : List S96) (qre qsuf : List S71), l = pre ++ suf → l.length ≤ maxLen → qre.length = pre.length → qsuf.length = suf.length →
    Ev (fun k => laws_toCellS.l0 k l (qre ++ qsuf) (pre.length : Int)) (qre ++ suf.map cpC) := by
  intro suf
  induction suf with
  | nil =>
    intro pre qre qsuf hl hm h1 h2
    subst hl
    obtain rfl : qsuf = [] := List.length_eq_zero_iff.1 h2
    refine Ev.step (fun k => laws_toCellS.l0.eq_2 ..) ?_
    refine ev_neg (not_lt_end _) (ev_const (by simp))
  | cons y suf ih =>
    intro pre qre qsuf hl hm h1 h2
    subst hl
    obtain ⟨z, qsuf, rfl⟩ : ∃ z t, qsuf = z :: t := by cases qsuf with | nil => simp at h2 | cons z t => exact ⟨z, t, rfl⟩
    refine Ev.step (fun k => laws_toCellS.l0.eq_2 ..) ?_
    refine ev_pos (lt_mid _ _ _) (ev_pos (by omega) ?_)
    simp only [laws_toCell.f, Option.bind_some, rd_T96, getD_mid]
    refine ev_pos (by rw [← h1]; exact lt_mid _ _ _) ?_
    rw [next_mid _ _ _ hm, ← h1, set_mid]
    have := ih (pre ++ [y]) (qre ++ [cpC y]) qsuf (assoc_mid _ _ _) hm (by simp [h1]) (by simpa using h2)
    simpa [cpC] using this
theorem toCells (l : List S96) (h : l.length ≤ 1048576) : Ev (fun k => laws_toCellS.f k l) (l.map cpC) := by
  have := toCells_loop l l [] [] (List.replicate l.length z71) rfl (by simp only [maxLen]; omega) rfl (by simp)
  unfold laws_toCellS.f
  refine ev_pos (by omega) (ev_pos (by simp; omega) ?_)
  simpa using this
theorem toBo (a b : Int) (l : List S96) (h : l.length ≤ 1048576) : Ev (fun k => laws_toBoard.f k a b l) (a, b, l.map cpC) := by
  unfold laws_toBoard.f
  exact ev_bind (toCells l h) (ev_const rfl)
theorem szBo (r c : Int) (l : List S96) (a : Int) (ha : 0 ≤ a ∧ a ≤ 1048576) (h : l.length ≤ maxLen) : laws_szBoard.f r c l a = some (if a - (l.length : Int) < 0 then -1 else a - (l.length : Int)) := by
  unfold laws_szBoard.f laws_szCellS.f
  simp only [maxLen] at h
  rw [wrap_id (x := a - (l.length : Int)) (by omega) (by omega)]
  by_cases h1 : a - (l.length : Int) < 0
  · rw [if_pos h1, Option.bind_some, if_pos (by omega), if_pos h1]
  · rw [if_neg h1, Option.bind_some, if_neg h1, if_neg h1]
theorem eqCells_loop (l : List S71) : ∀ (suf pre : List S71), l = pre ++ suf → l.length ≤ maxLen → Ev (fun k => laws_eqCellS.l0 k l l (pre.length : Int)) true := by
  intro suf
  induction suf with
  | nil =>
    intro pre hl hm
    subst hl
    refine Ev.step (fun k => laws_eqCellS.l0.eq_2 ..) ?_
    refine ev_neg (not_lt_end _) (ev_const rfl)
  | cons y suf ih =>
    intro pre hl hm
    subst hl
    refine Ev.step (fun k => laws_eqCellS.l0.eq_2 ..) ?_
    refine ev_pos (lt_mid _ _ _) (ev_pos (by omega) (ev_pos (lt_mid _ _ _) ?_))
    simp only [laws_eqCell.f, if_true, Option.bind_some]
    rw [next_mid _ _ _ hm]
    exact ih (pre ++ [y]) (assoc_mid _ _ _) hm
theorem eqCells (l : List S71) (h : l.length ≤ maxLen) : Ev (fun k => laws_eqCellS.f k l l) true := by
  unfold laws_eqCellS.f
  exact ev_pos rfl (eqCells_loop l l [] rfl h)
theorem eqBo (a b : Int) (l : List S71) (h : l.length ≤ maxLen) : Ev (fun k => laws_eqBoard.f k a b l a b l) true := by
  unfold laws_eqBoard.f
  exact ev_pos rfl (ev_pos rfl (ev_bind (eqCells l h) (ev_const rfl)))
def iotaC : Int → Nat → List S71
  | _, 0 => []
  | m, n + 1 => ⟨m, m + 1⟩ :: iotaC (m + 2) n
theorem iotaC_length (n : Nat) : ∀ m, (iotaC m n).length = n := by
  induction n with
  | zero => intro m; rfl
  | succ n ih => intro m; simp [iotaC, ih]
theorem markCells_loop : ∀ (suf pre : List S71) (m : Int), (pre ++ suf).length ≤ maxLen → 0 ≤ m → m + 2 * (suf.length : Int) ≤ 9223372036854775807 →
    Ev (fun k => laws_markCellS.l0 k (pre ++ suf) m (pre.length : Int)) (m + 2 * (suf.length : Int), pre ++ iotaC m suf.length) := by
  intro suf
  induction suf with
  | nil =>
    intro pre m hm h0 h1
    refine Ev.step (fun k => laws_markCellS.l0.eq_2 ..) ?_
    exact ev_neg (not_lt_end _) (ev_const (by simp [iotaC]))
  | cons y suf ih =>
    intro pre m hm h0 h1
    simp only [List.length_cons, Int.natCast_add, Int.natCast_one] at h1
    refine Ev.step (fun k => laws_markCellS.l0.eq_2 ..) ?_
    refine ev_pos (lt_mid _ _ _) (ev_pos (by omega) ?_)
    simp only [Option.bind_some]
    rw [next_mid _ _ _ hm, set_mid, List.append_assoc, List.singleton_append]
    simp only [rdc_mid]
    rw [set_mid, wrap_id (x := m + 1) (by omega) (by omega), wrap_id (x := m + 1 + 1) (by omega) (by omega)]
    have := ih (pre ++ [⟨m, m + 1⟩]) (m + 2) (by simpa using hm) (by omega) (by omega)
    rw [show ((pre ++ [(⟨m, m + 1⟩ : S71)]).length : Int) = ((pre ++ [y]).length : Int) by simp] at this
    rw [show (m + 2 * ((y :: suf).length : Int), pre ++ iotaC m (y :: suf).length) = (m + 2 + 2 * (suf.length : Int), pre ++ [(⟨m, m + 1⟩ : S71)] ++ iotaC (m + 2) suf.length) by simp [iotaC]; omega, show m + 1 + 1 = m + 2 by omega]
    exact this
theorem markBo (a b : Int) (l : List S71) (m : Int) (h : l.length ≤ maxLen) (h0 : 0 ≤ m) (h1 : m + 2 * (l.length : Int) ≤ 9223372036854775807) : Ev (fun k => laws_markBoard.f k a b l m) (m + 2 * (l.length : Int), iotaC m l.length) := by
  unfold laws_markBoard.f laws_markCellS.f
  exact ev_bind (markCells_loop l [] m h h0 h1) (ev_const rfl)
theorem heldCells_loop : ∀ (n : Nat) (pre : List S71) (m : Int), (pre ++ iotaC m n).length ≤ maxLen → 0 ≤ m → m + 2 * (n : Int) ≤ 9223372036854775807 →
    Ev (fun k => laws_heldCellS.l0 k (pre ++ iotaC m n) m (pre.length : Int)) (m + 2 * (n : Int)) := by
  intro n
  induction n with
  | zero =>
    intro pre m hm h0 h1
    refine Ev.step (fun k => laws_heldCellS.l0.eq_2 ..) ?_
    exact ev_neg (not_lt_end _) (ev_const (by simp))
  | succ n ih =>
    intro pre m hm h0 h1
    refine Ev.step (fun k => laws_heldCellS.l0.eq_2 ..) ?_
    simp only [iotaC] at hm ⊢
    refine ev_pos (lt_mid _ _ _) (ev_pos (by omega) ?_)
    have w1 : wrap64 (m + 1) = m + 1 := wrap_id (by omega) (by omega)
    have w2 : wrap64 (m + 1 + 1) = m + 2 := (wrap_id (by omega) (by omega)).trans (by omega)
    simp only [rdc_mid, w1, w2, if_true]
    rw [next_mid _ _ _ hm, assoc_mid]
    have := ih (pre ++ [⟨m, m + 1⟩]) (m + 2) (by simpa using hm) (by omega) (by omega)
    rw [show m + 2 * ((n + 1 : Nat) : Int) = m + 2 + 2 * (n : Int) by omega]
    exact this
theorem heldBo (a b : Int) (n : Nat) (m : Int) (h : n ≤ maxLen) (h0 : 0 ≤ m) (h1 : m + 2 * (n : Int) ≤ 9223372036854775807) : Ev (fun k => laws_heldBoard.f k a b (iotaC m n) m) (m + 2 * (n : Int)) := by
  unfold laws_heldBoard.f laws_heldCellS.f
  exact ev_bind (heldCells_loop n [] m (by simpa [iotaC_length] using h) h0 h1) (ev_neg (by omega) (ev_const rfl))
def CellOk (a b : Int) : Prop := (0 ≤ a ∧ a ≤ 7) ∧ (b = 0 ∨ b = 1 ∧ (a = 3 ∨ a = 6))
instance (a b : Int) : Decidable (CellOk a b) := by unfold CellOk; infer_instance
def BoOk (r c : Int) (l : List S71) : Prop := (1 ≤ r ∧ r ≤ 10) ∧ (1 ≤ c ∧ c ≤ 9) ∧ (l.length : Int) = r * c ∧ ∀ x ∈ l, CellOk x.f0 x.f1
instance (r c : Int) (l : List S71) : Decidable (BoOk r c l) := by unfold BoOk; infer_instance
theorem mul_small {r c : Int} (h1 : 1 ≤ r ∧ r ≤ 10) (h2 : 1 ≤ c ∧ c ≤ 9) : 1 ≤ r * c ∧ r * c ≤ 90 := by
  have h : r = 1 ∨ r = 2 ∨ r = 3 ∨ r = 4 ∨ r = 5 ∨ r = 6 ∨ r = 7 ∨ r = 8 ∨ r = 9 ∨ r = 10 := by omega
  rcases h with rfl | rfl | rfl | rfl | rfl | rfl | rfl | rfl | rfl | rfl <;> omega
theorem BoOk.len {r c : Int} {l : List S71} (h : BoOk r c l) : l.length ≤ 90 := by
  have := mul_small h.1 h.2.1
  have := h.2.2.1
  omega
theorem paTurning (a b : Int) : spec_paTurning.f a b = some (decide (a = 3 ∨ a = 6)) := by
  unfold spec_paTurning.f
  by_cases h : a = 3
  · rw [if_pos h]; simp [h]
  · rw [if_neg h]; simp [h, Bool.beq_eq_decide_eq]
theorem paGood (a b : Int) : spec_paGood.f a b = some (decide (CellOk a b)) := by
  unfold spec_paGood.f
  rw [in_f, Option.bind_some, paTurning]
  by_cases h : 0 ≤ a ∧ a ≤ 7
  · rw [if_pos (by simpa using h)]
    by_cases h1 : b = 0
    · rw [if_pos h1]; rw [decide_eq_true (show CellOk a b from ⟨h, .inl h1⟩)]
    · rw [if_neg h1]
      by_cases h2 : b = 1
      · rw [if_pos h2, Option.bind_some, Option.some.injEq, decide_eq_decide]
        exact ⟨fun h3 => ⟨h, .inr ⟨h2, h3⟩⟩, fun h3 => (h3.2.resolve_left h1).2⟩
      · rw [if_neg h2, decide_eq_false (fun h3 : CellOk a b => h2 (h3.2.resolve_left h1).1)]
  · rw [if_neg (by simpa using h), decide_eq_false (fun h3 : CellOk a b => h h3.1)]
theorem isCell (a b : Int) : impl_IsCell.f a b = some (decide (CellOk a b)) := by
  unfold impl_IsCell.f
  by_cases h : 0 ≤ a ∧ a ≤ 7
  · rw [if_neg (by omega), if_neg (by omega)]
    by_cases h1 : b < 0
    · rw [if_pos h1, decide_eq_false (fun h3 : CellOk a b => by have := h3.2; omega)]
    rw [if_neg h1]
    by_cases h2 : b > 1
    · rw [if_pos h2, decide_eq_false (fun h3 : CellOk a b => by have := h3.2; omega)]
    rw [if_neg h2]
    by_cases h3 : b = 0
    · rw [if_pos h3, decide_eq_true (show CellOk a b from ⟨h, .inl h3⟩)]
    rw [if_neg h3]
    have h4 : b = 1 := by omega
    by_cases h5 : a = 3
    · rw [if_pos h5, decide_eq_true (show CellOk a b from ⟨h, .inr ⟨h4, .inl h5⟩⟩)]
    · rw [if_neg h5, Bool.beq_eq_decide_eq, Option.some.injEq, decide_eq_decide]
      exact ⟨fun h6 => ⟨h, .inr ⟨h4, .inr h6⟩⟩, fun h6 => (h6.2.resolve_left h3).2.resolve_left h5⟩
  · rw [decide_eq_false (fun h3 : CellOk a b => h h3.1)]
    by_cases h1 : a < 0
    · rw [if_pos h1]
    · rw [if_neg h1, if_pos (by omega)]
theorem boGood_loop (l : List S71) (hm : l.length ≤ maxLen) : ∀ (suf pre : List S71), l = pre ++ suf →
    Ev (fun k => spec_boGood.l0 k l (l.length : Int) (pre.length : Int)) (decide (∀ x ∈ suf, CellOk x.f0 x.f1)) := by
  intro suf
  induction suf with
  | nil =>
    intro pre hl
    subst hl
    exact Ev.step (fun k => spec_boGood.l0.eq_2 ..) (ev_neg (not_lt_end _) (ev_const (by simp)))
  | cons y suf ih =>
    intro pre hl
    subst hl
    refine Ev.step (fun k => spec_boGood.l0.eq_2 ..) (ev_pos (lt_mid _ _ _) (ev_pos (by omega) (ev_pos (lt_mid _ _ _) ?_)))
    simp only [rdc_mid, paGood, Option.bind_some, decide_eq_true_eq]
    by_cases h : CellOk y.f0 y.f1
    · refine ev_pos h ?_
      rw [next_mid _ _ _ hm]
      rw [show decide (∀ x ∈ y :: suf, CellOk x.f0 x.f1) = decide (∀ x ∈ suf, CellOk x.f0 x.f1) by rw [decide_eq_decide]; simp [h]]
      exact ih (pre ++ [y]) (assoc_mid _ _ _)
    · refine ev_neg h (ev_const ?_)
      rw [show decide (∀ x ∈ y :: suf, CellOk x.f0 x.f1) = false from decide_eq_false (fun hh => h (hh y List.mem_cons_self))]
theorem boGood (r c : Int) (l : List S71) (hm : l.length ≤ maxLen) : Ev (fun k => spec_boGood.f k r c l) (decide (BoOk r c l)) := by
  unfold spec_boGood.f
  have no : ∀ b, b = true → ¬ BoOk r c l → Ev (fun k => spec_boGood.j0 k b r c l) (decide (BoOk r c l)) := by
    intro b hb h
    rw [decide_eq_false h]
    exact Ev.step (fun k => spec_boGood.j0.eq_2 ..) (ev_pos hb (ev_const rfl))
  simp only [in_f, Option.bind_some, decide_eq_true_eq]
  by_cases h1 : 1 ≤ r ∧ r ≤ 10
  · refine ev_pos h1 ?_
    by_cases h2 : 1 ≤ c ∧ c ≤ 9
    · have h3 := mul_small h1 h2
      refine ev_pos h2 ?_
      rw [wrap_id (by omega) (by omega)]
      by_cases h4 : (l.length : Int) = r * c
      · rw [show ((l.length : Int) != r * c) = false by simpa using h4]
        refine Ev.step (fun k => spec_boGood.j0.eq_2 ..) (ev_neg (by simp) ?_)
        rw [show decide (BoOk r c l) = decide (∀ x ∈ l, CellOk x.f0 x.f1) from decide_eq_decide.2 ⟨fun h => h.2.2.2, fun h => ⟨h1, h2, h4, h⟩⟩]
        exact boGood_loop l hm l [] rfl
      · exact no _ (by simpa using h4) (fun h => h4 h.2.2.1)
    · exact ev_neg h2 (no _ rfl (fun h => h2 h.2.1))
  · exact ev_neg h1 (no _ rfl (fun h => h1 h.1))
theorem validCells_loop (l : List S71) (hm : l.length ≤ maxLen) : ∀ (suf pre : List S71), l = pre ++ suf →
    Ev (fun k => impl_validCells.l0 k l (l.length : Int) (pre.length : Int)) (decide (∀ x ∈ suf, CellOk x.f0 x.f1)) := by
  intro suf
  induction suf with
  | nil =>
    intro pre hl
    subst hl
    exact Ev.step (fun k => impl_validCells.l0.eq_2 ..) (ev_neg (not_lt_end _) (ev_const (by simp)))
  | cons y suf ih =>
    intro pre hl
    subst hl
    refine Ev.step (fun k => impl_validCells.l0.eq_2 ..) (ev_pos (lt_mid _ _ _) (ev_pos (by omega) (ev_pos (lt_mid _ _ _) ?_)))
    simp only [rdc_mid, isCell, Option.bind_some, decide_eq_true_eq]
    by_cases h : CellOk y.f0 y.f1
    · refine ev_pos h ?_
      rw [next_mid _ _ _ hm]
      rw [show decide (∀ x ∈ y :: suf, CellOk x.f0 x.f1) = decide (∀ x ∈ suf, CellOk x.f0 x.f1) by rw [decide_eq_decide]; simp [h]]
      exact ih (pre ++ [y]) (assoc_mid _ _ _)
    · refine ev_neg h (ev_const ?_)
      rw [show decide (∀ x ∈ y :: suf, CellOk x.f0 x.f1) = false from decide_eq_false (fun hh => h (hh y List.mem_cons_self))]
theorem isBoard (r c : Int) (l : List S71) (hm : l.length ≤ maxLen) : Ev (fun k => impl_IsBoard.f k r c l) (decide (BoOk r c l)) := by
  unfold impl_IsBoard.f
  have no : ¬ BoOk r c l → Ev (fun _ : Nat => some false) (decide (BoOk r c l)) := by
    intro h; rw [decide_eq_false h]; exact ev_const rfl
  by_cases h1 : 1 ≤ r
  · refine ev_pos h1 ?_
    by_cases h2 : r ≤ 10
    · refine ev_pos h2 ?_
      by_cases h3 : 1 ≤ c
      · refine ev_pos h3 ?_
        by_cases h4 : c ≤ 9
        · refine ev_pos h4 ?_
          have h5 := mul_small ⟨h1, h2⟩ ⟨h3, h4⟩
          rw [wrap_id (by omega) (by omega)]
          by_cases h6 : (l.length : Int) = r * c
          · refine ev_pos h6 ?_
            rw [show decide (BoOk r c l) = decide (∀ x ∈ l, CellOk x.f0 x.f1) from decide_eq_decide.2 ⟨fun h => h.2.2.2, fun h => ⟨⟨h1, h2⟩, ⟨h3, h4⟩, h6, h⟩⟩]
            unfold impl_validCells.f
            exact ev_bind (ev_neg (by omega) (validCells_loop l hm l [] rfl)) (ev_const rfl)
          · exact ev_neg h6 (no (fun h => h6 h.2.2.1))
        · exact ev_neg h4 (no (fun h => h4 h.2.1.2))
      · exact ev_neg h3 (no (fun h => h3 h.2.1.1))
    · exact ev_neg h2 (no (fun h => h2 h.1.2))
  · exact ev_neg h1 (no (fun h => h1 h.1.1))
end Go.Proofs.Ytcilbmbgdcepgaa.A
end

section
/- What the printed functions that set the flips of a counting board come to. -/
namespace Go.Proofs.Ytcilbmbgdcepgaa.A
open Go.RowKit Go.Proofs.YtcilbmbgdcepgaaW.PrintWords Go.Proofs.YtcilbmbgdcepgaaW.PrintLast Go.Proofs.YtcilbmbgdcepgaaW.PrintMore Go.Proofs.Ytcilbmbgdcepgaa.P Go.Proofs.Ytcilbmbgdcepgaa.T
set_option linter.unusedVariables false
set_option linter.unusedSimpArgs false

/-- The cells from place i on, each flip with the state that its row's input says. -/
def setGo (c : Int) (xs : List Int) : Int → List S71 → List S71
  | _, [] => []
  | i, y :: l => (if y.f0 = 3 then ⟨y.f0, rd xs (i / c)⟩ else y) :: setGo c xs (i + 1) l
theorem setGo_length (c : Int) (xs : List Int) : ∀ (l : List S71) (i : Int), (setGo c xs i l).length = l.length := by
  intro l
  induction l with
  | nil => intro i; rfl
  | cons y l ih => intro i; simp [setGo, ih]
theorem div_row {i c n : Int} (h0 : 0 ≤ i) (hc : 1 ≤ c) (h : i < n * c) (hn : n ≤ 100) : wrap64 (Int.tdiv i c) = i / c ∧ 0 ≤ i / c ∧ i / c < n := by
  have h1 : 0 ≤ i / c := Int.ediv_nonneg h0 (by omega)
  have h2 : i / c < n := Int.ediv_lt_of_lt_mul (by omega) h
  rw [Int.tdiv_eq_ediv_of_nonneg h0, wrap_id (by omega) (by omega)]
  exact ⟨rfl, h1, h2⟩
def SetOk (r c : Int) (l : List S71) (xs : List Int) : Prop := BoOk r c l ∧ (1 ≤ (xs.length : Int) ∧ (xs.length : Int) ≤ 4) ∧ (∀ x ∈ xs, 0 ≤ x ∧ x ≤ 1) ∧ r = xs.length ∧ c = 2 * (xs.length : Int) + 1
instance (r c : Int) (l : List S71) (xs : List Int) : Decidable (SetOk r c l xs) := by unfold SetOk; infer_instance
def setB (r c : Int) (l : List S71) (xs : List Int) : Int × Int × List S71 × Bool := if SetOk r c l xs then (r, c, setGo c xs 0 l, true) else (0, 0, [], false)
theorem setB_len (r c : Int) (l : List S71) (xs : List Int) : (setB r c l xs).2.2.1.length ≤ 90 := by
  unfold setB
  split
  · rename_i h; rw [setGo_length]; exact h.1.len
  · simp
theorem cbSet_loop {r c : Int} (xs : List Int) (l : List S71) (hc : 1 ≤ c) (hn : xs.length ≤ 10) (hl : (l.length : Int) = xs.length * c) (hm : l.length ≤ 90) : ∀ (suf pre done : List S71), l = pre ++ suf → done.length = pre.length →
    Ev (fun k => spec_cbSet.l0 k xs l (l.length : Int) (pre.length : Int) r c l r c (done ++ suf)) (r, c, done ++ setGo c xs pre.length suf) := by
  intro suf
  induction suf with
  | nil =>
    intro pre done h1 h2
    subst h1
    exact Ev.step (fun k => spec_cbSet.l0.eq_2 ..) (ev_neg (by simp) (ev_const (by simp [setGo])))
  | cons y suf ih =>
    intro pre done h1 h2
    subst h1
    have hlt := lt_mid pre y suf
    obtain ⟨d1, d2, d3⟩ := div_row (i := (pre.length : Int)) (by omega) hc (hl ▸ hlt) (by omega)
    refine Ev.step (fun k => spec_cbSet.l0.eq_2 ..) (ev_pos hlt (ev_pos (by omega) (ev_pos hlt ?_)))
    rw [rdc_mid]
    have hnx := next_mid pre y suf (by simp only [maxLen]; omega)
    have hrd : rd_T71 (done ++ y :: suf) (pre.length : Int) = y := by rw [← h2]; exact rdc_mid done y suf
    by_cases h3 : y.f0 = 3
    · refine ev_pos h3 (ev_neg (by omega) (ev_pos (by rw [d1]; exact d2) (ev_pos (by rw [d1]; exact d3) (ev_pos (by rw [← h2]; exact lt_mid _ _ _) ?_))))
      rw [hrd, d1, hnx]
      have := ih (pre ++ [y]) (done ++ [⟨y.f0, rd xs (pre.length / c)⟩]) (assoc_mid _ _ _) (by simp [h2])
      rw [show (done ++ y :: suf).set ((pre.length : Int)).toNat ⟨y.f0, rd xs (pre.length / c)⟩ = (done ++ [⟨y.f0, rd xs (pre.length / c)⟩]) ++ suf by rw [← h2]; exact set_mid _ _ _ _]
      simpa [setGo, h3] using this
    · refine ev_neg h3 ?_
      rw [hnx]
      have := ih (pre ++ [y]) (done ++ [y]) (assoc_mid _ _ _) (by simp [h2])
      simpa [setGo, h3] using this
theorem cbSet {r c : Int} (xs : List Int) (l : List S71) (hc : 1 ≤ c) (hn : xs.length ≤ 10) (hl : (l.length : Int) = xs.length * c) (hm : l.length ≤ 90) : Ev (fun k => spec_cbSet.f k r c l xs) (r, c, setGo c xs 0 l) := by
  unfold spec_cbSet.f
  refine ev_bindc (a := (r, c, l)) ?_ (cbSet_loop (r := r) xs l hc hn hl hm l [] [] rfl rfl)
  unfold spec_boOwn.f
  rw [Option.bind_some, if_pos (by simp; omega)]; rfl
theorem cbInputs (xs : List Int) (hm : xs.length ≤ maxLen) : Ev (fun k => spec_cbInputs.f k xs) (decide ((1 ≤ (xs.length : Int) ∧ (xs.length : Int) ≤ 4) ∧ ∀ x ∈ xs, 0 ≤ x ∧ x ≤ 1)) := by
  unfold spec_cbInputs.f
  refine ev_bindc (in_f _ _ _) ?_
  simp only [decide_eq_true_eq]
  by_cases h : 1 ≤ (xs.length : Int) ∧ (xs.length : Int) ≤ 4
  · refine ev_pos h (ev_bind (l1All xs 0 1 hm) (ev_const ?_))
    simp [h]
  · refine ev_neg h (ev_const ?_)
    rw [decide_eq_false (fun h2 => h h2.1)]
theorem specSet (r c : Int) (l : List S71) (xs : List Int) (hm : l.length ≤ maxLen) (hx : xs.length ≤ 1048576) : Ev (fun k => spec_SetInputs.f k r c l xs) (setB r c l xs) := by
  unfold spec_SetInputs.f setB
  refine ev_bind (boGood r c l hm) ?_
  simp only [decide_eq_true_eq]
  by_cases h : BoOk r c l
  rotate_left
  · rw [if_neg (fun h2 : SetOk r c l xs => h h2.1)]; exact ev_neg h (ev_const rfl)
  refine ev_pos h (ev_bind (cbInputs xs (by simp only [maxLen]; omega)) ?_)
  simp only [decide_eq_true_eq]
  by_cases h2 : (1 ≤ (xs.length : Int) ∧ (xs.length : Int) ≤ 4) ∧ ∀ x ∈ xs, 0 ≤ x ∧ x ≤ 1
  rotate_left
  · rw [if_neg (fun h3 : SetOk r c l xs => h2 ⟨h3.2.1, h3.2.2.1⟩)]; exact ev_neg h2 (ev_const rfl)
  refine ev_pos h2 ?_
  rw [wrap_id (x := 2 * (xs.length : Int)) (by omega) (by omega), wrap_id (x := 2 * (xs.length : Int) + 1) (by omega) (by omega)]
  by_cases h3 : r = (xs.length : Int)
  rotate_left
  · rw [if_neg (fun h4 : SetOk r c l xs => h3 h4.2.2.2.1)]; exact ev_neg h3 (ev_const rfl)
  by_cases h4 : c = 2 * (xs.length : Int) + 1
  rotate_left
  · rw [if_neg (fun h5 : SetOk r c l xs => h4 h5.2.2.2.2)]; exact ev_pos h3 (ev_neg h4 (ev_const rfl))
  rw [if_pos (show SetOk r c l xs from ⟨h, h2.1, h2.2, h3, h4⟩)]
  exact ev_pos h3 (ev_pos h4 (ev_bind (cbSet xs l (by omega) (by omega) (by rw [h.2.2.1, h3]) h.len) (ev_const rfl)))
theorem areBits_loop (l : List Int) (hm : l.length ≤ maxLen) : ∀ (suf pre : List Int), l = pre ++ suf →
    Ev (fun k => impl_areBits.l0 k l (l.length : Int) (pre.length : Int)) (decide (∀ x ∈ suf, 0 ≤ x ∧ x ≤ 1)) := by
  intro suf
  induction suf with
  | nil =>
    intro pre h1
    subst h1
    exact Ev.step (fun k => impl_areBits.l0.eq_2 ..) (ev_neg (by simp) (ev_const (by simp)))
  | cons y suf ih =>
    intro pre h1
    subst h1
    have hlt := lt_mid pre y suf
    have hrest := ih (pre ++ [y]) (assoc_mid _ _ _)
    refine Ev.step (fun k => impl_areBits.l0.eq_2 ..) (ev_pos hlt (ev_pos (by omega) (ev_pos hlt ?_)))
    rw [rd_mid, next_mid pre y suf hm]
    by_cases h0 : y = 0
    · refine ev_pos h0 ?_
      rw [show decide (∀ x ∈ y :: suf, 0 ≤ x ∧ x ≤ 1) = decide (∀ x ∈ suf, 0 ≤ x ∧ x ≤ 1) by simp [h0]]
      exact hrest
    refine ev_neg h0 ?_
    by_cases h1 : y = 1
    · refine ev_pos h1 ?_
      rw [show decide (∀ x ∈ y :: suf, 0 ≤ x ∧ x ≤ 1) = decide (∀ x ∈ suf, 0 ≤ x ∧ x ≤ 1) by simp [h1]]
      exact hrest
    refine ev_neg h1 (ev_const ?_)
    rw [decide_eq_false]
    intro h
    have := h y List.mem_cons_self
    omega
theorem areBits (l : List Int) (hm : l.length ≤ maxLen) : Ev (fun k => impl_areBits.f k l) (decide (∀ x ∈ l, 0 ≤ x ∧ x ≤ 1)) := by
  unfold impl_areBits.f
  exact areBits_loop l hm l [] rfl
theorem implSet_loop {r c : Int} {lr : List S71} (xs : List Int) (l : List S71) (hc : 1 ≤ c) (hn : xs.length ≤ 10) (hl : (l.length : Int) = xs.length * c) (hm : l.length ≤ 90) : ∀ (suf pre done : List S71), l = pre ++ suf → done.length = pre.length →
    Ev (fun k => impl_SetInputs.l0 k xs (l.length : Int) (pre.length : Int) r c lr r c (done ++ suf)) (r, c, done ++ setGo c xs pre.length suf, true) := by
  intro suf
  induction suf with
  | nil =>
    intro pre done h1 h2
    subst h1
    exact Ev.step (fun k => impl_SetInputs.l0.eq_2 ..) (ev_neg (by simp) (ev_const (by simp [setGo])))
  | cons y suf ih =>
    intro pre done h1 h2
    subst h1
    have hlt := lt_mid pre y suf
    have hlt2 : (pre.length : Int) < ((done ++ y :: suf).length : Int) := by rw [← h2]; exact lt_mid _ _ _
    obtain ⟨d1, d2, d3⟩ := div_row (i := (pre.length : Int)) (by omega) hc (hl ▸ hlt) (by omega)
    refine Ev.step (fun k => impl_SetInputs.l0.eq_2 ..) (ev_pos hlt (ev_pos (by omega) (ev_pos hlt2 ?_)))
    have hrd : rd_T71 (done ++ y :: suf) (pre.length : Int) = y := by rw [← h2]; exact rdc_mid done y suf
    rw [hrd]
    have hnx := next_mid pre y suf (by simp only [maxLen]; omega)
    by_cases h3 : y.f0 = 3
    · refine ev_pos h3 (ev_neg (by omega) (ev_pos (by rw [d1]; exact d2) (ev_pos (by rw [d1]; exact d3) ?_)))
      rw [d1, hnx]
      have := ih (pre ++ [y]) (done ++ [⟨y.f0, rd xs (pre.length / c)⟩]) (assoc_mid _ _ _) (by simp [h2])
      rw [show (done ++ y :: suf).set ((pre.length : Int)).toNat ⟨y.f0, rd xs (pre.length / c)⟩ = (done ++ [⟨y.f0, rd xs (pre.length / c)⟩]) ++ suf by rw [← h2]; exact set_mid _ _ _ _]
      simpa [setGo, h3] using this
    · refine ev_neg h3 ?_
      rw [hnx]
      have := ih (pre ++ [y]) (done ++ [y]) (assoc_mid _ _ _) (by simp [h2])
      simpa [setGo, h3] using this
theorem implSet (r c : Int) (l : List S71) (xs : List Int) (hm : l.length ≤ maxLen) (hx : xs.length ≤ 1048576) : Ev (fun k => impl_SetInputs.f k r c l xs) (setB r c l xs) := by
  have no : ∀ (a b : Int) (z : List S71), ¬ SetOk r c l xs → Ev (fun k => impl_SetInputs.j0 k xs true a b z) (setB r c l xs) := fun a b z h => by
    unfold setB
    rw [if_neg h]
    exact Ev.step (fun k => impl_SetInputs.j0.eq_2 ..) (ev_pos rfl (ev_const rfl))
  unfold impl_SetInputs.f
  refine ev_bind (isBoard r c l hm) ?_
  simp only [decide_eq_true_eq]
  by_cases h : BoOk r c l
  rotate_left
  · exact ev_neg h (no _ _ _ (fun h2 => h h2.1))
  refine ev_pos h ?_
  by_cases h1 : (xs.length : Int) < 1
  · exact ev_pos h1 (no _ _ _ (fun h2 => by have := h2.2.1; omega))
  refine ev_neg h1 ?_
  by_cases h2 : (xs.length : Int) > 4
  · exact ev_pos h2 (no _ _ _ (fun h3 => by have := h3.2.1; omega))
  refine ev_neg h2 (ev_bind (areBits xs (by simp only [maxLen]; omega)) ?_)
  simp only [decide_eq_true_eq]
  by_cases h3 : ∀ x ∈ xs, 0 ≤ x ∧ x ≤ 1
  rotate_left
  · exact ev_neg h3 (no _ _ _ (fun h4 => h3 h4.2.2.1))
  refine ev_pos h3 ?_
  by_cases h4 : r = (xs.length : Int)
  rotate_left
  · exact ev_neg h4 (no _ _ _ (fun h5 => h4 h5.2.2.2.1))
  refine ev_pos h4 ?_
  rw [wrap_id (x := 2 * (xs.length : Int)) (by omega) (by omega), wrap_id (x := 2 * (xs.length : Int) + 1) (by omega) (by omega)]
  by_cases h5 : c = 2 * (xs.length : Int) + 1
  rotate_left
  · rw [show (c != 2 * (xs.length : Int) + 1) = true by simpa using h5]
    exact no _ _ _ (fun h6 => h5 h6.2.2.2.2)
  rw [show (c != 2 * (xs.length : Int) + 1) = false by simpa using h5]
  unfold setB
  rw [if_pos (show SetOk r c l xs from ⟨h, by omega, h3, h4, h5⟩)]
  have hlen := h.len
  refine Ev.step (fun k => impl_SetInputs.j0.eq_2 ..) (ev_neg (by simp) (ev_bindc (a := (r, c, l)) ?_ (implSet_loop xs l (by omega) (by omega) (by rw [h.2.2.1, h4]) hlen l [] [] rfl rfl)))
  unfold impl_copyBoard.f
  rw [Option.bind_some, if_pos (by simp; omega)]; rfl
end Go.Proofs.Ytcilbmbgdcepgaa.A
end

section
/- SetInputs: the program returns what the reference returns, for all boards and lists. -/
namespace Go.Proofs.Ytcilbmbgdcepgaa.A
open Go.RowKit Go.Proofs.YtcilbmbgdcepgaaW.PrintWords Go.Proofs.YtcilbmbgdcepgaaW.PrintLast Go.Proofs.YtcilbmbgdcepgaaW.PrintMore Go.Proofs.Ytcilbmbgdcepgaa.P Go.Proofs.Ytcilbmbgdcepgaa.T Go.Proofs.Ytcilbmbgdcepgaa.Op
set_option linter.unusedVariables false

theorem lawSetInputs : fnExactSetInputs.Pure := by
  intro r c l xs hr hc hl hxs
  refine Ev.rounds ?_
  unfold lw.f
  by_cases hxl : (xs.length : Int) > 1048576
  · exact ev_pos hxl (ev_const rfl)
  refine ev_neg hxl (ev_bindc (szBo r c l 1048576 (by omega) hl.1) ?_)
  by_cases h : (1048576 : Int) - (l.length : Int) < 0
  · rw [if_pos h]; exact ev_const rfl
  have hlen : l.length ≤ 1048576 := by omega
  have hml : (l.map cpC).length ≤ maxLen := by simp [maxLen]; omega
  have hto := toBo r c l hlen
  have htb := toInts xs (by omega)
  have hs := specSet r c (l.map cpC) xs hml (by omega)
  have hi := implSet r c (l.map cpC) xs hml (by omega)
  have hr := setB_len r c (l.map cpC) xs
  have hm : (setB r c (l.map cpC) xs).2.2.1.length ≤ maxLen := by simp only [maxLen]; omega
  rw [if_neg h]
  refine ev_neg h (ev_bind hto (ev_bind htb (ev_bind hs (ev_bind hto (ev_bind htb (ev_bind hi (ev_bind (eqBo _ _ _ hm) (ev_pos rfl (Ev.step (fun k => lw.j0.eq_2 ..) (ev_neg (by simp) ?_)))))))))) 
  have hml2 : (l.map cpC).length = l.length := by simp
  refine ev_bind hto (ev_bind (eqBo _ _ _ hml) (ev_pos rfl (ev_bind htb (ev_bind (eqInts xs hxs.1) (ev_pos rfl (ev_bind (markBo r c (l.map cpC) 1 hml (by omega) (by rw [hml2]; omega)) (ev_bind (markInts xs _ hxs.1 (by simp only [hml2]; omega) (by simp only [hml2]; omega)) (ev_neg (by simp only [hml2]; omega) (ev_bind (eqBo _ _ _ hm) (ev_pos rfl (Ev.step (fun k => lw.j1.eq_2 ..) (ev_neg (by simp) ?_))))))))))))
  refine ev_bind (markBo _ _ _ 1 hm (by omega) (by omega)) (ev_bind (heldBo _ _ _ 1 hm (by omega) (by omega)) (ev_neg (by simp; omega) (ev_pos rfl (ev_bind hto (ev_bind htb (ev_bind hi (ev_bind (eqBo _ _ _ hm) (ev_pos rfl (Ev.step (fun k => lw.j2.eq_2 ..) (ev_neg (by simp) ?_))))))))))
  exact ev_bind (heldBo _ _ _ 1 hm (by omega) (by omega)) (ev_neg (by simp; omega) (ev_pos rfl (ev_const rfl)))
end Go.Proofs.Ytcilbmbgdcepgaa.A
namespace Go.Proofs.Ytcilbmbgdcepgaa
/-- The row. -/
theorem fnExactSetInputs_holds : Rows.FnExactSetInputsSaid := fnExactSetInputs.over A.lawSetInputs
end Go.Proofs.Ytcilbmbgdcepgaa
end
