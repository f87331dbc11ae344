/- FnExactLongestAccepted: texts of this claim in one: Op, RowFnExactLongestAccepted, APairs, AReach, ALen, AWord, ALens, LawLongestAccepted. -/
import Derived.Deep.Slices
import Derived.ChangeSame
import Derived.ChangeArms
import Derived.Test.YtkfedkckakegjaaWWords
import Derived.Test.YtkfedkckakegjaaRows
import Derived.Test.YtkfedkckakegjaaYFnExactLongestAcceptedPx55
import Derived.WalkKit
import Derived.ProofKit
import Derived.OpenShut
import Derived.ShutString
import Derived.ChangeOld
import Derived.Below
import Derived.SizedLaws
import Derived.Test.YtkfedkckakegjaaYFnExactLongestAcceptedAPairs0
import Derived.Test.YtkfedkckakegjaaYFnExactLongestAcceptedPx44
import Derived.Test.YtkfedkckakegjaaYFnExactLongestAcceptedPx16
import Derived.Test.YtkfedkckakegjaaYFnExactLongestAcceptedAAu
import Derived.Test.YtkfedkckakegjaaABfs
import Derived.Test.YtkfedkckakegjaaYFnExactLongestAcceptedPx50
import Derived.Test.YtkfedkckakegjaaAPump
import Derived.Test.YtkfedkckakegjaaYFnExactLongestAcceptedPx47
import Derived.Test.YtkfedkckakegjaaYFnExactLongestAcceptedAWord0
import Derived.Test.YtkfedkckakegjaaYFnExactLongestAcceptedPx46
import Derived.Test.YtkfedkckakegjaaYFnExactLongestAcceptedPx48
import Derived.Test.YtkfedkckakegjaaALast
section
/- Opens an argument that a row reads as data into the cells and lists that a contract speaks of: whole numbers, slices, structs of two and three fields. -/
namespace Go.Proofs.Ytkfedkckakegjaa.Op
open Go.ChangeShapes Go.WideShapes Go.Deep Go.RowKit Go.Proofs.YtkfedkckakegjaaW.PrintWords
set_option linter.unusedVariables false

/-- What reads as data of type t is of kind d, and meets wf. -/
def Opens (P : Program) (t : TypeId) {α : Type} (d : Kd α) (wf : α → Prop) : Prop :=
  ∀ {H : Type} {enc : TypeId × Value → H} {w : World} {base : Nat} {spare : Nat → Bool} {held : Bool} {fuel : Nat} {cs : List Value} {x : DataW H × List MemPlace},
    DataW.trod enc P w base spare held fuel t cs = some x → ∃ a, d.K w a cs ∧ wf a

def WNum (k : IntKind) (n : Int) : Prop := (Lit.int k n).wf = true
abbrev WInt : Int → Prop := WNum .i64
def WList {α : Type} (wf : α → Prop) (l : List α) : Prop := l.length ≤ maxLen ∧ ∀ a ∈ l, wf a

theorem opens_int {P : Program} {t : TypeId} {k : IntKind} (h : P.underlying t = some (.int k)) : Opens P t (Kd.int k) (WNum k) := by
  intro H enc w base spare held fuel cs x ht
  obtain ⟨n, rfl, _, hw⟩ := DataW.trod_int h ht
  exact ⟨n, rfl, hw⟩

theorem opens_slice {P : Program} {t e : TypeId} {α : Type} {d : Kd α} {wf : α → Prop} (q : Nat) (h : P.underlying t = some (.slice e)) (hc : P.cellsOf e = d.sz) (o : Opens P e d wf) :
    Opens P t (Kd.slice q d) (WList wf) := by
  intro H enc w base spare held fuel cs x ht
  rcases open_slice h ht with ⟨rfl, _⟩ | ⟨a, len, cap, m, n, D, Pl, rfl, hb, hl, hm, hmm, hx, hi⟩
  · exact ⟨[], ⟨none, 0, rfl, Nat.le_refl _, rfl, by simp, fun hn => by simp at hn⟩, by simp [WList]⟩
  · have hlm : len ≤ m := by rw [hmm]; split <;> omega
    have each : ∀ i, i < len → ∃ y cs', w.cells? base (a.add (i * d.sz)) d.sz = some cs' ∧ d.K w y cs' ∧ wf y := by
      intro i hil
      obtain ⟨cs', h1, h2⟩ := hi i (by omega)
      obtain ⟨y, hk, hw⟩ := o h2
      rw [hc] at h1
      exact ⟨y, cs', h1, hk, hw⟩
    have build : ∀ k, k ≤ len → ∃ ys : List α, ys.length = k ∧ (∀ y ∈ ys, wf y) ∧ ∀ j y, ys[j]? = some y → ∃ c, c.length = d.sz ∧ d.K w y c ∧ ∀ i u, c[i]? = some u → w.cell? (a.add (j * d.sz + i)) = some u := by
      intro k
      induction k with
      | zero => exact fun _ => ⟨[], rfl, by simp, by simp⟩
      | succ k ih =>
        intro hk
        obtain ⟨ys, hlen, hwf, hys⟩ := ih (by omega)
        obtain ⟨y, cs', h1, h2, h3⟩ := each k (by omega)
        obtain ⟨_, hcl, hat⟩ := World.cells?_some h1
        refine ⟨ys ++ [y], by simp [hlen], ?_, ?_⟩
        · intro z hz
          rcases List.mem_append.1 hz with hz | hz
          · exact hwf z hz
          · rw [List.mem_singleton.1 hz]; exact h3
        · intro j z hj
          by_cases hjk : j < k
          · rw [List.getElem?_append_left (by omega)] at hj
            exact hys j z hj
          · have hjl : j < (ys ++ [y]).length := (List.getElem?_eq_some_iff.1 hj).1
            simp only [List.length_append, List.length_singleton, hlen] at hjl
            obtain rfl : j = k := by omega
            rw [List.getElem?_append_right (by omega), hlen, Nat.sub_self] at hj
            obtain rfl : y = z := by simpa using hj
            refine ⟨cs', hcl, h2, fun i u hu => ?_⟩
            have hil : i < d.sz := by
              have := (List.getElem?_eq_some_iff.1 hu).1
              omega
            have := hat i hil
            rw [Go.Deep.add_add] at this
            rw [this, hu]
    obtain ⟨ys, hlen, hwf, hys⟩ := build len (Nat.le_refl _)
    have hmx : len ≤ maxLen := by omega
    exact ⟨ys, ⟨some a, cap, by rw [hlen], by rw [hlen]; exact hl, rfl, by rw [hlen]; exact hmx, fun _ => ⟨a, rfl, hys⟩⟩, by rw [hlen]; exact hmx, hwf⟩

theorem opens_iso {P : Program} {t : TypeId} {α β : Type} {d : Kd α} {wf : α → Prop} (f : β → α) (g : α → β) (hg : ∀ a, f (g a) = a) (o : Opens P t d wf) : Opens P t (Kd.iso d f) (fun b => wf (f b)) := by
  intro H enc w base spare held fuel cs x ht
  obtain ⟨a, h1, h2⟩ := o ht
  exact ⟨g a, by show d.K w (f (g a)) cs; rw [hg]; exact h1, by show wf (f (g a)); rw [hg]; exact h2⟩

theorem opens_two {P : Program} {t : TypeId} {f0 f1 : Field} {α β : Type} {a : Kd α} {b : Kd β} {wa : α → Prop} {wb : β → Prop}
    (h : P.underlying t = some (.struct #[f0, f1])) (hc : P.cellsOf t = a.sz + b.sz) (o0 : f0.offset = 0) (o1 : f1.offset = a.sz) (c0 : P.cellsOf f0.type = a.sz) (c1 : P.cellsOf f1.type = b.sz)
    (oa : Opens P f0.type a wa) (ob : Opens P f1.type b wb) : Opens P t (Kd.pair a b) (fun x => wa x.1 ∧ wb x.2) := by
  intro H enc w base spare held fuel cs x ht
  obtain ⟨xs, n, _, _, hlen, hxl, hf⟩ := DataW.trod_struct h ht
  have hx2 : xs.length = 2 := hxl
  have h0 := hf 0 f0 rfl
  have h1 := hf 1 f1 rfl
  rw [List.getElem?_eq_getElem (by omega)] at h0 h1
  obtain ⟨y0, k0, w0⟩ := oa h0
  obtain ⟨y1, k1, w1⟩ := ob h1
  refine ⟨(y0, y1), ⟨_, _, ?_, k0, k1⟩, w0, w1⟩
  rw [hc] at hlen
  rw [o0, o1, c0, c1, List.drop_zero]
  rw [List.take_of_length_le (l := cs.drop a.sz) (by simp; omega), List.take_append_drop]

theorem opens_three {P : Program} {t : TypeId} {f0 f1 f2 : Field} {α β γ : Type} {a : Kd α} {b : Kd β} {c : Kd γ} {wa : α → Prop} {wb : β → Prop} {wc : γ → Prop}
    (h : P.underlying t = some (.struct #[f0, f1, f2])) (hc : P.cellsOf t = a.sz + (b.sz + c.sz)) (o0 : f0.offset = 0) (o1 : f1.offset = a.sz) (o2 : f2.offset = a.sz + b.sz) (c0 : P.cellsOf f0.type = a.sz) (c1 : P.cellsOf f1.type = b.sz) (c2 : P.cellsOf f2.type = c.sz)
    (oa : Opens P f0.type a wa) (ob : Opens P f1.type b wb) (oc : Opens P f2.type c wc) : Opens P t (Kd.pair a (Kd.pair b c)) (fun x => wa x.1 ∧ wb x.2.1 ∧ wc x.2.2) := by
  intro H enc w base spare held fuel cs x ht
  obtain ⟨xs, n, _, _, hlen, hxl, hf⟩ := DataW.trod_struct h ht
  have hx2 : xs.length = 3 := hxl
  have h0 := hf 0 f0 rfl
  have h1 := hf 1 f1 rfl
  have h2 := hf 2 f2 rfl
  rw [List.getElem?_eq_getElem (by omega)] at h0 h1 h2
  obtain ⟨y0, k0, w0⟩ := oa h0
  obtain ⟨y1, k1, w1⟩ := ob h1
  obtain ⟨y2, k2, w2⟩ := oc h2
  rw [hc] at hlen
  refine ⟨(y0, y1, y2), ⟨_, cs.drop a.sz, ?_, k0, ⟨_, _, ?_, k1, k2⟩⟩, w0, w1, w2⟩
  · rw [o0, c0, List.drop_zero, List.take_append_drop]
  · rw [o1, o2, c1, c2]
    rw [List.take_of_length_le (l := cs.drop (a.sz + b.sz)) (by simp; omega), ← List.drop_drop, List.take_append_drop]

/-- A slice among the arguments. -/
theorem open_arg_slice {P : Program} {t : TypeId} {α : Type} {d : Kd α} {wf : α → Prop} {q : Nat} (o : Opens P t (Kd.slice q d) (WList wf)) {H : Type} {enc : TypeId × Value → H} {w : World} {base : Nat} {spare : Nat → Bool} {held : Bool}
    {A : Option Addr} {len cap : Nat} {D : DataW H} {ps : List MemPlace} (h : DataW.Trod enc P w base spare held t (.slice A len cap) D ps) :
    ∃ l : List α, len = l.length ∧ l.length ≤ cap ∧ d.C w A l.length l ∧ WList wf l := by
  obtain ⟨fuel, hf⟩ := h
  obtain ⟨l, ⟨A', c, he, hl, hC⟩, hw⟩ := o hf
  simp only [Value.cells, List.cons.injEq, Value.slice.injEq, and_true] at he
  obtain ⟨rfl, rfl, rfl⟩ := he
  exact ⟨l, rfl, hl, hC, hw⟩
end Go.Proofs.Ytkfedkckakegjaa.Op
end

section
/- FnExactLongestAccepted: the program and the reference agree for all arguments: the row over the pure statement. -/
namespace Go.Proofs.Ytkfedkckakegjaa.fnExactLongestAccepted
open Go.ChangeShapes Go.WideShapes Go.ChangeAt Go.RowKit
open Go.ChangeMaps (open_string shut_string)
open Go.Proofs.Ytkfedkckakegjaa.Op
set_option linter.unusedVariables false
def Pure : Prop := ∀ (a0_0 : Int) (l0_1 : (List (List Int))) (l0_2 : (List Int)), (WNum .i64) a0_0 → (WList (WList (WNum .i64))) l0_1 → (WList (WNum .i64)) l0_2 → ∃ k, P.laws_FnExactLongestAccepted.f k a0_0 l0_1 l0_2 = some true
theorem own : ownKnob Try.prog.godebug = none := by kernel_rfl
theorem laidOut : laidOutB Try.prog = true := by kernel_rfl
theorem ty3 : Opens Try.prog 3 (Go.Proofs.YtkfedkckakegjaaW.PrintWords.Kd.int .i64) (WNum .i64) := opens_int Try.underlying3
theorem ty23 : Opens Try.prog 23 (Go.Proofs.YtkfedkckakegjaaW.PrintWords.Kd.slice 3 (Go.Proofs.YtkfedkckakegjaaW.PrintWords.Kd.int .i64)) (WList (WNum .i64)) := opens_slice 3 Try.underlying23 (by kernel_rfl) ty3
theorem ty22 : Opens Try.prog 22 (Go.Proofs.YtkfedkckakegjaaW.PrintWords.Kd.slice 23 (Go.Proofs.YtkfedkckakegjaaW.PrintWords.Kd.slice 3 (Go.Proofs.YtkfedkckakegjaaW.PrintWords.Kd.int .i64))) (WList (WList (WNum .i64))) := opens_slice 23 Try.underlying22 (by kernel_rfl) ty23
theorem tw25 : Opens Try.prog 25 (Go.Proofs.YtkfedkckakegjaaW.PrintWords.Kd.pair (Go.Proofs.YtkfedkckakegjaaW.PrintWords.Kd.int .i64) (Go.Proofs.YtkfedkckakegjaaW.PrintWords.Kd.pair (Go.Proofs.YtkfedkckakegjaaW.PrintWords.Kd.slice 23 (Go.Proofs.YtkfedkckakegjaaW.PrintWords.Kd.slice 3 (Go.Proofs.YtkfedkckakegjaaW.PrintWords.Kd.int .i64))) (Go.Proofs.YtkfedkckakegjaaW.PrintWords.Kd.slice 3 (Go.Proofs.YtkfedkckakegjaaW.PrintWords.Kd.int .i64)))) (fun x : Int × (List (List Int)) × (List Int) => (WNum .i64) x.1 ∧ (WList (WList (WNum .i64))) x.2.1 ∧ (WList (WNum .i64)) x.2.2) := opens_three Try.underlying25 (by kernel_rfl) (by kernel_rfl) (by kernel_rfl) (by kernel_rfl) (by kernel_rfl) (by kernel_rfl) (by kernel_rfl) ty3 ty22 ty23
set_option maxRecDepth 100000 in
theorem lifted (pure : Pure) (os : Os) (started : os.Started) (H : Type) (enc : TypeId × Value → H) :
    ReturnsInHanded {} Try.checked os 10 .any (Rows.fnExactLongestAcceptedSpec.pre6 enc Try.prog Try.f10 Rows.fnExactLongestAcceptedRow.domain false) (Rows.fnExactLongestAcceptedSpec.post enc Try.prog Try.f10 false true false false) := by
  refine returnsInHanded_of_change_sized (C := Try.checked) own started (by kernel_rfl) Try.func10
    (ChangeSpec.witness6 (enc := enc) (C := Try.checked) false ⟨#[], #[.agg #[.int .i64 0, .slice none 0 0, .slice none 0 0]], []⟩ 8 (by kernel_rfl) (by kernel_rfl) (by kernel_rfl) (by kernel_rfl)) ?_
  intro W base args ds gs before hval0 hW hcnd hsz0 _
  have hsz : (DataW.weightsEach Try.prog (Try.f10.params.toList ++ Rows.fnExactLongestAcceptedSpec.plain.varTypes Try.prog) (ds ++ gs)).all (· ≤ reachBytes) = true := hsz0
  have hval : ∀ (j : Nat) t v, Try.f10.params[j]? = some t → args[j]? = some v → Value.okWide Try.prog W .any base t v := hval0
  have hW' := hW
  obtain ⟨p, q, hA0, hV, rfl, hfz, hnd⟩ := hW
  have hA : DataW.TrodAll enc Try.prog W 0 (fun _ => true) true Try.f10.params.toList args.toList ds p := hA0
  rw [Try.params10] at hA hval hsz
  obtain ⟨v0, vs0, d0, ds0, p0, q0, hargs, rfl, rfl, h0, r0⟩ := trodAll_cons hA
  obtain ⟨rfl, rfl, rfl⟩ := trodAll_nil r0
  obtain rfl : args = #[v0] := by cases args; simp_all
  obtain ⟨rfl, rfl⟩ := trodVars_none hV
  have k0 := h0
  have lt0 : ∀ x ∈ p0, x.block < W.heap.size := by obtain ⟨m, hm⟩ := k0; exact DataW.trod_lt m _ _ _ hm
  obtain ⟨cs0, rfl, _⟩ := okWide_struct Try.underlying25 (hval 0 25 v0 rfl rfl)
  obtain ⟨csl0⟩ := cs0
  obtain ⟨fu0, hf0⟩ := h0
  obtain ⟨⟨a0_0, l0_1, l0_2⟩, ⟨x0_0, xr0, ex0, e0_0, ⟨x0_1, x0_2, er0, ⟨A0_1, c0_1, e0_1, hc0_1, hC0_1⟩, ⟨A0_2, c0_2, e0_2, hc0_2, hC0_2⟩⟩⟩, ⟨w0_0, w0_1, w0_2⟩⟩ := tw25 hf0
  replace e0_0 : x0_0 = [Value.int .i64 a0_0] := e0_0
  replace e0_1 : x0_1 = [Value.slice A0_1 l0_1.length c0_1] := e0_1
  replace hc0_1 : l0_1.length ≤ c0_1 := hc0_1
  replace hC0_1 : Go.Proofs.YtkfedkckakegjaaW.PrintWords.Kd.C (Go.Proofs.YtkfedkckakegjaaW.PrintWords.Kd.slice 3 (Go.Proofs.YtkfedkckakegjaaW.PrintWords.Kd.int .i64)) W A0_1 l0_1.length l0_1 := hC0_1
  replace e0_2 : x0_2 = [Value.slice A0_2 l0_2.length c0_2] := e0_2
  replace hc0_2 : l0_2.length ≤ c0_2 := hc0_2
  replace hC0_2 : Go.Proofs.YtkfedkckakegjaaW.PrintWords.Kd.C (Go.Proofs.YtkfedkckakegjaaW.PrintWords.Kd.int .i64) W A0_2 l0_2.length l0_2 := hC0_2
  replace w0_0 : (WNum .i64) a0_0 := w0_0
  replace w0_1 : (WList (WList (WNum .i64))) l0_1 := w0_1
  replace w0_2 : (WList (WNum .i64)) l0_2 := w0_2
  subst e0_1 e0_2 er0 e0_0 ex0
  clear hA0 hval0 hsz0 hsz
  obtain ⟨k, hk⟩ := pure a0_0 l0_1 l0_2 w0_0 w0_1 w0_2
  refine (P.laws_FnExactLongestAccepted.calls k a0_0 _ _ l0_1 _ _ l0_2 true W hC0_1 hc0_1 hC0_2 hc0_2 hk).mono fun e W' ⟨he, bel⟩ => ?_
  subst he
  exact ⟨_, rfl, _, _, _, [], _, [], hW', trodAll_mk1 (shut_bool Try.underlying4 _), (trodAll_cons_mk (Below.trod laidOut (by kernel_rfl) (of_decide_eq_true (by kernel_rfl)) k0 bel lt0) trodAll_mk0), rfl, bel.frame _, fun h => by cases h⟩
theorem over (pure : Pure) : Rows.fnExactLongestAcceptedRow.holds Try.pinned (OpenSpec.ofChange Rows.fnExactLongestAcceptedSpec) :=
  OpenClaim.holds_of_wide 10 Try.f10 rfl rfl rfl rfl rfl rfl rfl ⟨rfl, rfl, rfl, rfl, rfl⟩ rfl rfl rfl rfl rfl (by kernel_rfl) Try.func10 (by kernel_rfl)
    (of_decide_eq_true (by kernel_rfl)) (by unfold Func.isWrapper; first | (rw [if_pos (by decide +kernel)]; kernel_rfl) | (rw [if_neg (by decide +kernel)]; exact ⟨rfl, rfl⟩))
    (fun os started H enc _ => lifted pure os started H enc)
end Go.Proofs.Ytkfedkckakegjaa.fnExactLongestAccepted
end

section
/- The reference's eqPairs, as its walk tells it. -/
namespace Go.Proofs.Ytkfedkckakegjaa.A
open Go.RowKit Go.Proofs.YtkfedkckakegjaaW.PrintWords Go.Proofs.YtkfedkckakegjaaW.PrintLast Go.Proofs.YtkfedkckakegjaaW.PrintMore Go.Proofs.Ytkfedkckakegjaa.P Go.Proofs.Ytkfedkckakegjaa.T
section
variable {L L2 : Int} {A B : List (List Int)} {F G : List Int}
theorem eqPairs (h : TwoOk L A B) {i j : Int} (hij : VP A B (i, j)) : Ev (fun k => spec_eqPairs.f k L A F L2 B G i j) (rep (bfsP A B i j).1, (bfsP A B i j).2) := by
  unfold spec_eqPairs.f
  exact ev_const (if_pos ⟨h, hij⟩)
end
end Go.Proofs.Ytkfedkckakegjaa.A
end

section
/- The reference's auReach: the states that are reached, with their words, by breadth-first search. -/
namespace Go.Proofs.Ytkfedkckakegjaa.A
open Go.RowKit Go.Proofs.YtkfedkckakegjaaW.PrintWords Go.Proofs.YtkfedkckakegjaaW.PrintLast Go.Proofs.YtkfedkckakegjaaW.PrintMore Go.Proofs.Ytkfedkckakegjaa.P Go.Proofs.Ytkfedkckakegjaa.T
set_option linter.unusedVariables false
set_option linter.unusedSimpArgs false

def succA (N : List (List Int)) (s : Int) : List Int := N.getD s.toNat []
def VA (N : List (List Int)) (s : Int) : Prop := 0 ≤ s ∧ s < (N.length : Int)
def bfsA (N : List (List Int)) : List Int × List (List Int) := bfsN (succA N) 0 N.length 0 ([0], [[]])
theorem AuOk.succ {L : Int} {N : List (List Int)} {F : List Int} (h : AuOk L N F) : ∀ x, VA N x → ∀ t ∈ succA N x, VA N t := by
  intro x hx t ht
  have hm : N.getD x.toNat [] ∈ N := by
    have hl : x.toNat < N.length := by unfold VA at hx; omega
    rw [List.getD_eq_getElem?_getD, List.getElem?_eq_getElem hl]; exact List.getElem_mem _
  have := (h.2.2.1 _ hm).2 t ht
  unfold VA; omega
theorem bfsA_end {L : Int} {N : List (List Int)} {F : List Int} (h : AuOk L N F) : BInv (succA N) (VA N) 0 (bfsA N) ∧ Closed (succA N) (bfsA N).1.length (bfsA N) :=
  bfs_end 0 (fun s => s.toNat) N.length h.succ (fun x hx => by unfold VA at hx; omega) (fun x y hx hy e => by unfold VA at hx hy; omega) N.length 0 _ (by omega) (BInv.one (show VA N 0 from ⟨by omega, by have := h.2.1; omega⟩)) (fun j x hj => absurd hj (Nat.not_lt_zero _))
theorem BInv.short {N : List (List Int)} {p : List Int × List (List Int)} (h : BInv (succA N) (VA N) 0 p) : p.1.length ≤ N.length :=
  nodup_bound (fun s => s.toNat) N.length p.1 h.nodup (fun x hx => by have := h.valid x hx; unfold VA at this; omega) (fun x hx y hy e => by have := h.valid x hx; have := h.valid y hy; unfold VA at *; omega)
section
variable {L : Int} {N : List (List Int)} {F : List Int} {R : List Int × List (List Int)}
theorem reach_l1 (idx : Nat) (w : List Int) (hw : w.length ≤ 1000) (row : List Int) (hr : row.length ≤ maxLen) : ∀ (suf pre : List Int) (S : List Int) (W : List (List Int)), row = pre ++ suf → W[idx]? = some w →
    (rowGo w pre.length suf (S, W)).1.length ≤ 1000 → (rowGo w pre.length suf (S, W)).2.length ≤ 1000 →
    Ev (fun k => spec_auReach.l0 k (rowGo w pre.length suf (S, W)).1 (rowGo w pre.length suf (S, W)).2 (wrap64 ((idx : Int) + 1)) L N F) R →
    Ev (fun k => spec_auReach.l1 k S W (idx : Int) row (row.length : Int) (pre.length : Int) L N F) R := by
  intro suf
  induction suf with
  | nil =>
    intro pre S W h1 h2 h3 h4 h
    subst h1
    exact Ev.step (fun k => spec_auReach.l1.eq_2 ..) (ev_neg (by simp) h)
  | cons t suf ih =>
    intro pre S W h1 h2 h3 h4 h
    subst h1
    have hlt := lt_mid pre t suf
    obtain ⟨a, b, e⟩ := rowGo_grows w (t :: suf) pre.length (S, W)
    have hS : S.length ≤ 1000 := by rw [e] at h3; simp at h3; omega
    have hW : W.length ≤ 1000 := by rw [e] at h4; simp at h4; omega
    have hix := (List.getElem?_eq_some_iff.1 h2).1
    refine Ev.step (fun k => spec_auReach.l1.eq_2 ..) (ev_pos hlt (ev_pos (by omega) (ev_pos hlt ?_)))
    rw [rd_mid, next_mid pre t suf hr]
    refine ev_bind (l1Has S t (by simp only [maxLen]; omega)) ?_
    simp only [decide_eq_true_eq]
    have hlen : (pre.length : Int) + 1 = ((pre ++ [t]).length : Int) := by simp
    rw [rowGo, hlen] at h3 h4 h
    by_cases hm : t ∈ S
    · rw [if_pos (show t ∈ (S, W).1 from hm)] at h3 h4 h
      exact ev_pos hm (ih (pre ++ [t]) S W (assoc_mid _ _ _) h2 h3 h4 h)
    · rw [if_neg (show ¬ t ∈ (S, W).1 from hm)] at h3 h4 h
      have hrow : rd_L1 W (idx : Int) = w := by simp [rd_L1, List.getD_eq_getElem?_getD, h2]
      refine ev_neg hm (ev_pos (by omega) (ev_pos (by omega) (ev_pos (by omega) (ev_bindc (by rw [hrow]; exact l1Own w (by omega)) (ev_pos (by omega) (ev_pos (by omega) ?_))))))
      exact ih (pre ++ [t]) (S ++ [t]) (W ++ [w ++ [(pre.length : Int)]]) (assoc_mid _ _ _) (by rw [List.getElem?_append_left hix]; exact h2) h3 h4 h
theorem reach_l0 (hA : AuOk L N F) (hr : ∀ x ∈ N, x.length ≤ maxLen) : ∀ (d i : Nat) (p : List Int × List (List Int)), i + d = N.length → BInv (succA N) (VA N) 0 p → Closed (succA N) i p →
    Ev (fun k => spec_auReach.l0 k p.1 p.2 (i : Int) L N F) (bfsN (succA N) 0 d i p) := by
  have hn := hA.2.1
  intro d
  induction d with
  | zero =>
    intro i p hi h hc
    have := h.short
    exact Ev.step (fun k => spec_auReach.l0.eq_2 ..) (ev_neg (by omega) (ev_const rfl))
  | succ d ih =>
    intro i p hi h hc
    rw [bfsN]
    by_cases hlt : i < p.1.length
    · rw [if_pos hlt]
      obtain ⟨h2, c2⟩ := bfs_step 0 hA.succ h hc hlt
      have hs := h2.short
      have hx : rd p.1 (i : Int) = p.1.getD i 0 := by simp [rd]
      have hv := h.valid _ (List.mem_of_getElem? (show p.1[i]? = some (p.1.getD i 0) by simp [List.getD_eq_getElem?_getD, hlt]))
      have hi2 : i < p.2.length := by rw [h.len]; exact hlt
      have hw := h.way i (p.1.getD i 0) (p.2.getD i []) (by simp [List.getD_eq_getElem?_getD, hlt]) (by simp [List.getD_eq_getElem?_getD, hi2])
      have hrow : rd_L1 N (p.1.getD i 0) = succA N (p.1.getD i 0) := rfl
      have hmem : rd_L1 N (p.1.getD i 0) ∈ N := rdl_mem hv.1 hv.2
      refine Ev.step (fun k => spec_auReach.l0.eq_2 ..) (ev_pos (by omega) (ev_pos (by omega) (ev_pos (by rw [hx]; exact hv.1) (ev_pos (by rw [hx]; exact hv.2) ?_))))
      rw [hx, hrow]
      refine reach_l1 i (p.2.getD i []) (by have := h.short; omega) _ (hr _ hmem) (succA N (p.1.getD i 0)) [] p.1 p.2 rfl (by simp [List.getD_eq_getElem?_getD, hi2]) (by simp only [List.length_nil, Int.ofNat_zero] at *; exact Nat.le_trans hs (by omega)) (by simp only [List.length_nil]; rw [show ((0 : Nat) : Int) = 0 from rfl, h2.len]; omega) ?_
      rw [wrap_id (x := (i : Int) + 1) (by have := h.short; omega) (by have := h.short; omega)]
      exact ih (i + 1) _ (by omega) h2 c2
    · rw [if_neg hlt]
      exact Ev.step (fun k => spec_auReach.l0.eq_2 ..) (ev_neg (by omega) (ev_const rfl))
theorem auReach (hA : AuOk L N F) (hr : ∀ x ∈ N, x.length ≤ maxLen) : Ev (fun k => spec_auReach.f k L N F) (bfsA N) := by
  unfold spec_auReach.f
  exact reach_l0 hA hr N.length 0 ([0], [[]]) (by omega) (BInv.one (show VA N 0 from ⟨by omega, by have := hA.2.1; omega⟩)) (fun j x hj => absurd hj (Nat.not_lt_zero _))
end
end Go.Proofs.Ytkfedkckakegjaa.A
end

section
/- Layers of an automaton: what the program's longestFrom and the reference's eqLengths come to. -/
namespace Go.Proofs.Ytkfedkckakegjaa.A
open Go.RowKit Go.Proofs.YtkfedkckakegjaaW.PrintWords Go.Proofs.YtkfedkckakegjaaW.PrintLast Go.Proofs.YtkfedkckakegjaaW.PrintMore Go.Proofs.Ytkfedkckakegjaa.P Go.Proofs.Ytkfedkckakegjaa.T
set_option linter.unusedVariables false
set_option linter.unusedSimpArgs false

theorem rdb_mid (pre : List Bool) (y : Bool) (suf : List Bool) : rdOf false (pre ++ y :: suf) (pre.length : Int) = y := by simp [rdOf]
theorem getD_set (a : List Bool) (i j : Nat) (v : Bool) (h : i < a.length) : (a.set i v).getD j false = if i = j then v else a.getD j false := by
  simp only [List.getD_eq_getElem?_getD, List.getElem?_set]
  by_cases e : i = j
  · subst e; simp [h]
  · simp [e]
def setU (U : Int → Bool) : List Bool → List Int → List Bool
  | a, [] => a
  | a, t :: r => setU U (a.set t.toNat (rdOf false a t || U t)) r
theorem setU_length (U : Int → Bool) : ∀ (r : List Int) (a : List Bool), (setU U a r).length = a.length := by
  intro r
  induction r with
  | nil => intro a; rfl
  | cons t r ih => intro a; simp [setU, ih]
theorem setU_get (U : Int → Bool) (j : Nat) : ∀ (r : List Int) (a : List Bool), (∀ t ∈ r, 0 ≤ t ∧ t < (a.length : Int)) → ((setU U a r).getD j false = true ↔ a.getD j false = true ∨ ((j : Int) ∈ r ∧ U j = true)) := by
  intro r
  induction r with
  | nil => intro a _; simp [setU]
  | cons t r ih =>
    intro a h
    have ht := h t List.mem_cons_self
    rw [setU, ih _ (fun x hx => by simpa using h x (List.mem_cons_of_mem _ hx)), getD_set _ _ _ _ (by omega), List.mem_cons]
    by_cases e : t.toNat = j
    · have e2 : (j : Int) = t := by omega
      rw [if_pos e, Bool.or_eq_true, e2, rdOf, e]
      constructor
      · rintro ((h1 | h1) | h1)
        · exact .inl h1
        · exact .inr ⟨.inl rfl, h1⟩
        · exact .inr ⟨.inr h1.1, h1.2⟩
      · rintro (h1 | ⟨h1, h2⟩)
        · exact .inl (.inl h1)
        · exact .inl (.inr h2)
    · have e2 : (j : Int) ≠ t := by omega
      rw [if_neg e]
      simp [e2]
def layU (U : Int → Bool) (N : List (List Int)) : Nat → List Bool → List Bool → List Bool
  | i, [], acc => acc
  | i, b :: l, acc => layU U N (i + 1) l (if b = true then setU U acc (N.getD i []) else acc)
theorem layU_length (U : Int → Bool) (N : List (List Int)) : ∀ (l : List Bool) (i : Nat) (acc : List Bool), (layU U N i l acc).length = acc.length := by
  intro l
  induction l with
  | nil => intro i acc; rfl
  | cons b l ih => intro i acc; rw [layU, ih]; split <;> simp [setU_length]
def RowsIn (N : List (List Int)) : Prop := ∀ i, i < N.length → ∀ t ∈ N.getD i [], 0 ≤ t ∧ t < (N.length : Int)
theorem layU_get (U : Int → Bool) (N : List (List Int)) (hN : RowsIn N) (j : Nat) : ∀ (l : List Bool) (i : Nat) (acc : List Bool), acc.length = N.length → i + l.length ≤ N.length →
    ((layU U N i l acc).getD j false = true ↔ acc.getD j false = true ∨ ∃ k, l.getD k false = true ∧ (j : Int) ∈ N.getD (i + k) [] ∧ U j = true) := by
  intro l
  induction l with
  | nil => intro i acc _ _; simp [layU]
  | cons b l ih =>
    intro i acc h1 h2
    simp only [List.length_cons] at h2
    rw [layU, ih (i + 1) _ (by split <;> simp [setU_length, h1]) (by omega)]
    have hsplit : (∃ k, (b :: l).getD k false = true ∧ (j : Int) ∈ N.getD (i + k) [] ∧ U j = true) ↔ ((b = true ∧ (j : Int) ∈ N.getD i [] ∧ U j = true) ∨ ∃ k, l.getD k false = true ∧ (j : Int) ∈ N.getD (i + 1 + k) [] ∧ U j = true) := by
      constructor
      · rintro ⟨k, hk, h⟩
        cases k with
        | zero => exact .inl ⟨by simpa using hk, h⟩
        | succ k => exact .inr ⟨k, by simpa using hk, by rw [show i + 1 + k = i + (k + 1) by omega]; exact h⟩
      · rintro (⟨hb, h⟩ | ⟨k, hk, h⟩)
        · exact ⟨0, by simpa using hb, h⟩
        · exact ⟨k + 1, by simpa using hk, by rw [show i + (k + 1) = i + 1 + k by omega]; exact h⟩
    rw [hsplit]
    by_cases hb : b = true
    · rw [if_pos hb, setU_get U j _ _ (by rw [h1]; exact hN i (by omega))]
      simp only [hb, true_and]
      constructor
      · rintro ((h | h) | h)
        · exact .inl h
        · exact .inr (.inl h)
        · exact .inr (.inr h)
      · rintro (h | h | h)
        · exact .inl (.inl h)
        · exact .inl (.inr h)
        · exact .inr h
    · rw [if_neg hb]
      simp [hb]
def nextU (U : Int → Bool) (N : List (List Int)) (l : List Bool) : List Bool := layU U N 0 l (List.replicate N.length false)
theorem nextU_length (U : Int → Bool) (N : List (List Int)) (l : List Bool) : (nextU U N l).length = N.length := by simp [nextU, layU_length]
/-- The edges. -/
def Edge (N : List (List Int)) (s t : Nat) : Prop := s < N.length ∧ (t : Int) ∈ N.getD s []
theorem nextU_get (U : Int → Bool) (N : List (List Int)) (hN : RowsIn N) (l : List Bool) (hl : l.length = N.length) (j : Nat) :
    (nextU U N l).getD j false = true ↔ ∃ s, l.getD s false = true ∧ Edge N s j ∧ U j = true := by
  unfold nextU
  rw [layU_get U N hN j l 0 _ (by simp) (by omega)]
  have h0 : (List.replicate N.length false).getD j false = false := by simp [List.getD_eq_getElem?_getD, List.getElem?_replicate]; split <;> rfl
  rw [h0]
  simp only [Bool.false_eq_true, false_or, Nat.zero_add, Edge]
  constructor
  · rintro ⟨k, hk, h⟩
    refine ⟨k, hk, ⟨?_, h.1⟩, h.2⟩
    by_cases hlt : k < l.length
    · omega
    · rw [List.getD_eq_getElem?_getD, List.getElem?_eq_none (by omega)] at hk; simp at hk
  · rintro ⟨s, hs, h, hu⟩
    exact ⟨s, hs, h.2, hu⟩
def layers (U : Int → Bool) (N : List (List Int)) (l0 : List Bool) : Nat → List Bool
  | 0 => l0
  | m + 1 => nextU U N (layers U N l0 m)
theorem layers_length (U : Int → Bool) (N : List (List Int)) (l0 : List Bool) (h : l0.length = N.length) (m : Nat) : (layers U N l0 m).length = N.length := by
  cases m with
  | zero => exact h
  | succ m => exact nextU_length _ _ _
def accB (F : List Int) : Nat → List Bool → Bool
  | _, [] => false
  | i, b :: l => (b && decide ((i : Int) ∈ F)) || accB F (i + 1) l
theorem accB_get (F : List Int) : ∀ (l : List Bool) (i : Nat), accB F i l = true ↔ ∃ k, l.getD k false = true ∧ ((i + k : Nat) : Int) ∈ F := by
  intro l
  induction l with
  | nil => intro i; simp [accB]
  | cons b l ih =>
    intro i
    rw [accB, Bool.or_eq_true, ih, Bool.and_eq_true, decide_eq_true_eq]
    constructor
    · rintro (⟨hb, h⟩ | ⟨k, hk, h⟩)
      · exact ⟨0, by simpa using hb, h⟩
      · exact ⟨k + 1, by simpa using hk, by rw [show i + (k + 1) = i + 1 + k by omega]; exact h⟩
    · rintro ⟨k, hk, h⟩
      cases k with
      | zero => exact .inl ⟨by simpa using hk, h⟩
      | succ k => exact .inr ⟨k, by simpa using hk, by rw [show i + 1 + k = i + (k + 1) by omega]; exact h⟩
def bestL (N : List (List Int)) (F : List Int) (l0 : List Bool) : Nat → Int
  | 0 => -1
  | m + 1 => if accB F 0 (layers (fun _ => true) N l0 m) = true then (m : Int) else bestL N F l0 m
def longGo (F : List Int) (m : Int) : Nat → List Bool → Int → Int
  | _, [], x => x
  | i, b :: l, x => longGo F m (i + 1) l (if b = true ∧ (i : Int) ∈ F then m else x)
theorem longGo_acc (F : List Int) (m : Int) : ∀ (l : List Bool) (i : Nat) (x : Int), longGo F m i l x = if accB F i l = true then m else x := by
  intro l
  induction l with
  | nil => intro i x; rfl
  | cons b l ih =>
    intro i x
    rw [longGo, ih, accB]
    by_cases h : b = true ∧ (i : Int) ∈ F
    · rw [if_pos h]
      simp [h.1, h.2]
    · rw [if_neg h]
      have : (b && decide ((i : Int) ∈ F)) = false := by
        rw [Bool.eq_false_iff]; simpa using h
      rw [this, Bool.false_or]
section
variable {L : Int} {N : List (List Int)} {F : List Int} {R : Int × Bool}
theorem long_l3 (x4 m : Int) (x34 : List Bool) (x35 x36 : Int) (row : List Int) (hr : row.length ≤ maxLen) : ∀ (suf pre : List Int) (acc : List Bool), row = pre ++ suf → (∀ t ∈ suf, 0 ≤ t ∧ t < (acc.length : Int)) →
    Ev (fun k => impl_longestFrom.l2 k x4 m (setU (fun _ => true) acc suf) x34 x35 (wrap64 (x36 + 1)) L N F) R →
    Ev (fun k => impl_longestFrom.l3 k x4 m acc x34 x35 x36 row (row.length : Int) (pre.length : Int) L N F) R := by
  intro suf
  induction suf with
  | nil =>
    intro pre acc h1 h2 h
    subst h1
    exact Ev.step (fun k => impl_longestFrom.l3.eq_2 ..) (ev_neg (by simp) h)
  | cons t suf ih =>
    intro pre acc h1 h2 h
    subst h1
    have ht := h2 t List.mem_cons_self
    have hlt := lt_mid pre t suf
    refine Ev.step (fun k => impl_longestFrom.l3.eq_2 ..) (ev_pos hlt (ev_pos (by omega) (ev_pos hlt ?_)))
    rw [rd_mid, next_mid pre t suf hr]
    refine ev_pos ht.1 (ev_pos ht.2 (ih (pre ++ [t]) (acc.set t.toNat true) (assoc_mid _ _ _) (fun y hy => by simpa using h2 y (List.mem_cons_of_mem _ hy)) ?_))
    simpa [setU] using h
theorem long_l2 (hN : RowsIn N) (hn : N.length ≤ 12) (hr : ∀ x ∈ N, x.length ≤ maxLen) (hF : F.length ≤ maxLen) (m : Int) (x34 : List Bool) (hx : x34.length = N.length) : ∀ (suf pre acc : List Bool) (x4 : Int), x34 = pre ++ suf → acc.length = N.length →
    Ev (fun k => impl_longestFrom.l1 k (longGo F m pre.length suf x4) (layU (fun _ => true) N pre.length suf acc) (wrap64 (m + 1)) L N F) R →
    Ev (fun k => impl_longestFrom.l2 k x4 m acc x34 (x34.length : Int) (pre.length : Int) L N F) R := by
  intro suf
  induction suf with
  | nil =>
    intro pre acc x4 h1 h2 h
    subst h1
    exact Ev.step (fun k => impl_longestFrom.l2.eq_2 ..) (ev_neg (by simp) h)
  | cons b suf ih =>
    intro pre acc x4 h1 h2 h
    subst h1
    have hlt := lt_mid pre b suf
    have hpl : pre.length < N.length := by simp at hx; omega
    have hnx := next_mid pre b suf (by simp only [maxLen]; omega)
    refine Ev.step (fun k => impl_longestFrom.l2.eq_2 ..) (ev_pos hlt (ev_pos (by omega) (ev_pos hlt ?_)))
    rw [rdb_mid]
    rw [longGo, layU] at h
    cases b with
    | false =>
      refine ev_neg (by simp) ?_
      rw [hnx]
      exact ih (pre ++ [false]) acc x4 (assoc_mid _ _ _) h2 (by simpa using h)
    | true =>
      have hrow : rd_L1 N (pre.length : Int) = N.getD pre.length [] := by simp [rd_L1]
      have hmem : N.getD pre.length [] ∈ N := by rw [← hrow]; exact rdl_mem (by omega) (by omega)
      have j3 : ∀ x4', Ev (fun k => impl_longestFrom.l1 k (longGo F m (pre.length + 1) suf x4') (layU (fun _ => true) N (pre.length + 1) suf (setU (fun _ => true) acc (N.getD pre.length []))) (wrap64 (m + 1)) L N F) R →
          Ev (fun k => impl_longestFrom.j3 k x4' m acc (pre.length : Int) (pre ++ true :: suf) ((pre ++ true :: suf).length : Int) (pre.length : Int) L N F) R := fun x4' h' => by
        refine Ev.step (fun k => impl_longestFrom.j3.eq_2 ..) (ev_pos (by omega) (ev_pos (by omega) ?_))
        rw [hrow]
        refine long_l3 x4' m _ _ _ _ (hr _ hmem) (N.getD pre.length []) [] acc rfl (by rw [h2]; exact hN _ hpl) ?_
        rw [hnx]
        exact ih (pre ++ [true]) _ x4' (assoc_mid _ _ _) (by rw [setU_length, h2]) (by simpa using h')
      refine ev_pos rfl (ev_bind (contains F (pre.length : Int) hF) ?_)
      simp only [decide_eq_true_eq]
      rw [if_pos rfl] at h
      by_cases hf : (pre.length : Int) ∈ F
      · exact ev_pos hf (j3 m (by simpa [hf] using h))
      · exact ev_neg hf (j3 x4 (by simpa [hf] using h))
theorem long_l1 (hN : RowsIn N) (hn : N.length ≤ 12) (hr : ∀ x ∈ N, x.length ≤ maxLen) (hF : F.length ≤ maxLen) (l0 : List Bool) (h0 : l0.length = N.length) : ∀ (d m : Nat), m + d = 2 * N.length →
    Ev (fun k => impl_longestFrom.l1 k (bestL N F l0 m) (layers (fun _ => true) N l0 m) (m : Int) L N F) (bestL N F l0 (2 * N.length), decide (bestL N F l0 (2 * N.length) < (N.length : Int))) := by
  intro d
  induction d with
  | zero =>
    intro m hm
    obtain rfl : m = 2 * N.length := by omega
    refine Ev.step (fun k => impl_longestFrom.l1.eq_2 ..) (ev_neg ?_ (ev_const rfl))
    rw [wrap_id (by omega) (by omega)]; omega
  | succ d ih =>
    intro m hm
    refine Ev.step (fun k => impl_longestFrom.l1.eq_2 ..) (ev_pos ?_ (ev_pos (by omega) (ev_pos (by omega) ?_)))
    · rw [wrap_id (by omega) (by omega)]; omega
    refine long_l2 hN hn hr hF m _ (layers_length _ _ _ h0 m) _ [] _ _ rfl (by simp) ?_
    rw [wrap_id (x := (m : Int) + 1) (by omega) (by omega)]
    have := ih (m + 1) (by omega)
    rw [bestL] at this
    rw [List.length_nil, longGo_acc]
    simpa [layers, nextU] using this
theorem long_l0 (hn : N.length ≤ 12) (F : List Int) (x4 : Int) : ∀ (d : Nat) (l : List Bool), l.length + d = N.length → Ev (fun k => impl_longestFrom.l1 k x4 (l ++ List.replicate d false) 0 L N F) R →
    Ev (fun k => impl_longestFrom.l0 k x4 l L N F) R := by
  intro d
  induction d with
  | zero =>
    intro l hl h
    refine Ev.step (fun k => impl_longestFrom.l0.eq_2 ..) (ev_neg (by omega) ?_)
    simpa using h
  | succ d ih =>
    intro l hl h
    refine Ev.step (fun k => impl_longestFrom.l0.eq_2 ..) (ev_pos (by omega) (ev_pos (by omega) (ih (l ++ [false]) (by simp; omega) ?_)))
    rw [List.append_assoc, List.singleton_append, ← List.replicate_succ]
    exact h
/-- The first layer. -/
def lay0 (N : List (List Int)) : List Bool := [true] ++ List.replicate (N.length - 1) false
theorem longestFrom (hN : RowsIn N) (h1 : 1 ≤ N.length) (hn : N.length ≤ 12) (hr : ∀ x ∈ N, x.length ≤ maxLen) (hF : F.length ≤ maxLen) :
    Ev (fun k => impl_longestFrom.f k L N F) (bestL N F (lay0 N) (2 * N.length), decide (bestL N F (lay0 N) (2 * N.length) < (N.length : Int))) := by
  unfold impl_longestFrom.f
  exact long_l0 hn F (-1) (N.length - 1) [true] (by simp; omega) (long_l1 hN hn hr hF (lay0 N) (by simp [lay0]; omega) (2 * N.length) 0 (by omega))
end
end Go.Proofs.Ytkfedkckakegjaa.A
end

section
/- The reference's eqWord (the first word of a kind) and eqUseful (states that lie on the way of an accepted word). -/
namespace Go.Proofs.Ytkfedkckakegjaa.A
open Go.RowKit Go.Proofs.YtkfedkckakegjaaW.PrintWords Go.Proofs.YtkfedkckakegjaaW.PrintLast Go.Proofs.YtkfedkckakegjaaW.PrintMore Go.Proofs.Ytkfedkckakegjaa.P Go.Proofs.Ytkfedkckakegjaa.T
set_option linter.unusedVariables false
set_option linter.unusedSimpArgs false

section
variable {L L2 : Int} {A B : List (List Int)} {F G : List Int}
theorem eqWord (kind : Int) (h : TwoOk L A B) (hF : F.length ≤ maxLen) (hG : G.length ≤ maxLen) {i j : Int} (hij : VP A B (i, j)) : Ev (fun k => spec_eqWord.f k kind L A F L2 B G i j) (findP kind F G (bfsP A B i j).1 (bfsP A B i j).2) := by
  unfold spec_eqWord.f
  exact ev_const (if_pos ⟨⟨h, hij⟩, hF, hG⟩)
end
theorem findP_found (kind : Int) (F G : List Int) : ∀ (S : List (Int × Int)) (W : List (List Int)), W.length = S.length → ((findP kind F G S W).2 = true ↔ ∃ s ∈ S, isK kind (decide (s.1 ∈ F)) (decide (s.2 ∈ G)) = true) := by
  intro S
  induction S with
  | nil => intro W h; cases W <;> simp [findP]
  | cons s S ih =>
    intro W h
    cases W with
    | nil => simp at h
    | cons w W =>
      rw [findP]
      by_cases e : isK kind (decide (s.1 ∈ F)) (decide (s.2 ∈ G)) = true
      · rw [if_pos e]; simp [e]
      · rw [if_neg e, ih W (by simpa using h)]; simp [e]
theorem follow_walk {N : List (List Int)} (hN : ∀ x, VP N N x → ∀ t ∈ succP N N x, VP N N t) : ∀ (w : List Int) (s t : Int × Int), VP N N s → follow (succP N N) s w = some t → Walk (Edge N) w.length s.1.toNat t.1.toNat := by
  intro w
  induction w with
  | nil => intro s t hs h; simp only [follow, Option.some.injEq] at h; subst h; rfl
  | cons x w ih =>
    intro s t hs h
    simp only [follow] at h
    split at h
    · obtain ⟨v, hv, h⟩ := Option.bind_eq_some_iff.mp h
      have hm := List.mem_of_getElem? hv
      have hvv := hN s hs v hm
      refine ⟨v.1.toNat, ⟨by unfold VP at hs; omega, ?_⟩, ih v t hvv h⟩
      have := (List.of_mem_zip (show (v.1, v.2) ∈ (N.getD s.1.toNat []).zip (N.getD s.2.toNat []) from hm)).1
      rw [show ((v.1.toNat : Nat) : Int) = v.1 by unfold VP at hvv; omega]
      exact this
    · simp at h
theorem walk_pairs {L : Int} {N : List (List Int)} {F : List Int} (hA : AuOk L N F) {p : List (Int × Int) × List (List Int)} (hv : ∀ x ∈ p.1, VP N N x) (hc : Closed (succP N N) p.1.length p) : ∀ (m a f : Nat) (b : Int), ((a : Int), b) ∈ p.1 → Walk (Edge N) m a f → ∃ q, ((f : Int), q) ∈ p.1 := by
  intro m
  induction m with
  | zero => intro a f b hab h; cases h; exact ⟨b, hab⟩
  | succ m ih =>
    intro a f b hab h
    obtain ⟨u, ⟨hu1, hu2⟩, h⟩ := h
    obtain ⟨j, hj⟩ := List.getElem?_of_mem hab
    have hvb := hv _ hab
    unfold VP at hvb
    simp only at hvb
    obtain ⟨x, hx, hxe⟩ := List.mem_iff_getElem.1 hu2
    have l1 := (hA.2.2.1 _ (getD_mem hu1)).1
    have l2 := (hA.2.2.1 _ (getD_mem (show b.toNat < N.length by omega))).1
    have hx2 : x < (N.getD b.toNat []).length := by omega
    have hmem : ((u : Int), (N.getD b.toNat [])[x]) ∈ succP N N ((a : Int), b) := by
      unfold succP
      simp only [Int.toNat_natCast]
      refine List.mem_of_getElem? (i := x) ?_
      rw [List.getElem?_zip_eq_some]
      exact ⟨by rw [List.getElem?_eq_getElem hx, hxe], by rw [List.getElem?_eq_getElem hx2]⟩
    exact ih u f _ (hc j _ (List.getElem?_eq_some_iff.1 hj).1 hj _ hmem) h
/-- Some word is accepted from a state. -/
def CoAcc (N : List (List Int)) (F : List Int) (s : Nat) : Prop := ∃ m f : Nat, (f : Int) ∈ F ∧ Walk (Edge N) m s f
theorem found_co {L : Int} {N : List (List Int)} {F : List Int} (hA : AuOk L N F) {s : Int} (hs : VA N s) : (findP 3 F [] (bfsP N N s s).1 (bfsP N N s s).2).2 = true ↔ CoAcc N F s.toNat := by
  have h2 : TwoOk L N N := TwoOk.of hA hA
  have hss : VP N N (s, s) := ⟨hs, hs⟩
  obtain ⟨hb, hc⟩ := bfsP_end h2 hss
  rw [findP_found _ _ _ _ _ hb.len]
  have hk : ∀ a : Bool, isK 3 a (decide (0 ∈ ([] : List Int))) = a := fun a => by cases a <;> rfl
  constructor
  · rintro ⟨x, hx, h⟩
    have hxF : x.1 ∈ F := by simpa [isK] using h
    obtain ⟨j, hj⟩ := List.getElem?_of_mem hx
    have hjl := (List.getElem?_eq_some_iff.1 hj).1
    have hw := hb.way j x ((bfsP N N s s).2.getD j []) hj (by simp [List.getD_eq_getElem?_getD, hb.len, hjl])
    have hvx := hb.valid x hx
    refine ⟨_, x.1.toNat, ?_, follow_walk h2.succ _ _ _ hss hw.1⟩
    rw [show ((x.1.toNat : Nat) : Int) = x.1 by unfold VP at hvx; omega]
    exact hxF
  · rintro ⟨m, f, hf, h⟩
    have hs0 : (((s.toNat : Nat) : Int), s) ∈ (bfsP N N s s).1 := by
      rw [show ((s.toNat : Nat) : Int) = s by unfold VA at hs; omega]
      exact List.mem_of_getElem? hb.start
    obtain ⟨q, hq⟩ := walk_pairs hA hb.valid hc m s.toNat f s hs0 h
    exact ⟨_, hq, by simpa [isK] using hf⟩
section
variable {L : Int} {N : List (List Int)} {F : List Int}
def useGo (N : List (List Int)) (F : List Int) : List Int → List Bool → List Bool
  | [], u => u
  | s :: S, u => useGo N F S (u.set s.toNat (findP 3 F [] (bfsP N N s s).1 (bfsP N N s s).2).2)
theorem useful_loop (hA : AuOk L N F) (hF : F.length ≤ maxLen) (S : List Int) (hS : S.length ≤ 1000) (hV : ∀ x ∈ S, VA N x) : ∀ (suf pre : List Int) (u : List Bool), S = pre ++ suf → u.length = N.length →
    Ev (fun k => spec_eqUseful.l0 k u S (S.length : Int) (pre.length : Int) L N F) (useGo N F suf u) := by
  intro suf
  induction suf with
  | nil =>
    intro pre u h1 h2
    subst h1
    exact Ev.step (fun k => spec_eqUseful.l0.eq_2 ..) (ev_neg (by simp) (ev_const rfl))
  | cons s suf ih =>
    intro pre u h1 h2
    have hs : VA N s := hV s (by rw [h1]; simp)
    have hrd : rd S (pre.length : Int) = s := by rw [h1]; exact rd_mid pre s suf
    have hlt : pre.length < S.length := by rw [h1]; simp
    have hv := hs
    unfold VA at hv
    refine Ev.step (fun k => spec_eqUseful.l0.eq_2 ..) (ev_pos (by omega) (ev_pos (by omega) (ev_pos (by omega) ?_)))
    rw [hrd]
    refine ev_bind (eqWord (L2 := L) (G := []) 3 (TwoOk.of hA hA) hF (by simp) (show VP N N (s, s) from ⟨hs, hs⟩)) (ev_pos (by omega) (ev_pos (by omega) ?_))
    rw [wrap_id (x := (pre.length : Int) + 1) (by omega) (by omega), show (pre.length : Int) + 1 = ((pre ++ [s]).length : Int) by simp]
    exact ih (pre ++ [s]) _ (by rw [h1]; simp) (by simpa using h2)
theorem useGo_length (N : List (List Int)) (F : List Int) : ∀ (S : List Int) (u : List Bool), (useGo N F S u).length = u.length := by
  intro S
  induction S with
  | nil => intro u; rfl
  | cons s S ih => intro u; rw [useGo, ih]; simp
theorem useGo_get (hA : AuOk L N F) (j : Nat) : ∀ (S : List Int) (u : List Bool), (∀ x ∈ S, VA N x) → S.Nodup → u.length = N.length →
    ((useGo N F S u).getD j false = true ↔ if (j : Int) ∈ S then CoAcc N F j else u.getD j false = true) := by
  intro S
  induction S with
  | nil => intro u _ _ _; simp [useGo]
  | cons s S ih =>
    intro u hV hn hu
    have hs := hV s List.mem_cons_self
    have hv := hs
    unfold VA at hv
    rw [List.nodup_cons] at hn
    rw [useGo, ih _ (fun x hx => hV x (List.mem_cons_of_mem _ hx)) hn.2 (by simpa using hu), getD_set _ _ _ _ (by omega)]
    by_cases e : s.toNat = j
    · have e2 : (j : Int) = s := by omega
      rw [if_neg (by rw [e2]; exact hn.1), if_pos e, if_pos (by rw [e2]; exact List.mem_cons_self), found_co hA hs, e]
    · have e2 : (j : Int) ≠ s := by omega
      rw [if_neg e]
      simp [List.mem_cons, e2]
theorem eqUseful (hA : AuOk L N F) (hr : ∀ x ∈ N, x.length ≤ maxLen) (hF : F.length ≤ maxLen) : Ev (fun k => spec_eqUseful.f k L N F) (useGo N F (bfsA N).1 (List.replicate N.length false)) := by
  have hn := hA.2.1
  have hb := (bfsA_end hA).1
  have := hb.short
  unfold spec_eqUseful.f
  refine ev_pos (by omega) (ev_pos (by omega) (ev_bind (auReach hA hr) ?_))
  exact useful_loop hA hF _ (by omega) hb.valid _ [] _ rfl (by simp)
end
end Go.Proofs.Ytkfedkckakegjaa.A
end

section
/- Layers of an automaton among useful states: what the reference's eqLengths comes to. -/
namespace Go.Proofs.Ytkfedkckakegjaa.A
open Go.RowKit Go.Proofs.YtkfedkckakegjaaW.PrintWords Go.Proofs.YtkfedkckakegjaaW.PrintLast Go.Proofs.YtkfedkckakegjaaW.PrintMore Go.Proofs.Ytkfedkckakegjaa.P Go.Proofs.Ytkfedkckakegjaa.T
set_option linter.unusedVariables false
set_option linter.unusedSimpArgs false

def lensL (U : Int → Bool) (N : List (List Int)) (F : List Int) (l0 : List Bool) : Nat → List Bool
  | 0 => []
  | m + 1 => lensL U N F l0 m ++ [accB F 0 (layers U N l0 m)]
theorem lensL_length (U : Int → Bool) (N : List (List Int)) (F : List Int) (l0 : List Bool) (m : Nat) : (lensL U N F l0 m).length = m := by
  induction m with
  | zero => rfl
  | succ m ih => simp [lensL, ih]
def anyB : List Bool → Bool
  | [] => false
  | b :: l => b || anyB l
theorem anyB_get : ∀ (l : List Bool), anyB l = true ↔ ∃ k, l.getD k false = true := by
  intro l
  induction l with
  | nil => simp [anyB]
  | cons b l ih =>
    rw [anyB, Bool.or_eq_true, ih]
    constructor
    · rintro (h | ⟨k, h⟩)
      · exact ⟨0, by simpa using h⟩
      · exact ⟨k + 1, by simpa using h⟩
    · rintro ⟨k, h⟩
      cases k with
      | zero => exact .inl (by simpa using h)
      | succ k => exact .inr ⟨k, by simpa using h⟩
section
variable {L : Int} {N : List (List Int)} {F : List Int} {R : List Bool}
theorem lens_l2 (us : List Bool) (x5 : List Bool) (x6 : Int) (x7 : Bool) (x38 : List Bool) (x39 x40 : Int) (row : List Int) (hr : row.length ≤ maxLen) : ∀ (suf pre : List Int) (acc : List Bool), row = pre ++ suf → acc.length = us.length → (∀ t ∈ suf, 0 ≤ t ∧ t < (acc.length : Int)) →
    Ev (fun k => spec_eqLengths.l1 k us x5 x6 x7 (setU (fun t => rdOf false us t) acc suf) x38 x39 (wrap64 (x40 + 1)) L N F) R →
    Ev (fun k => spec_eqLengths.l2 k us x5 x6 x7 acc x38 x39 x40 row (row.length : Int) (pre.length : Int) L N F) R := by
  intro suf
  induction suf with
  | nil =>
    intro pre acc h1 hu h2 h
    subst h1
    exact Ev.step (fun k => spec_eqLengths.l2.eq_2 ..) (ev_neg (by simp) h)
  | cons t suf ih =>
    intro pre acc h1 hu h2 h
    subst h1
    have ht := h2 t List.mem_cons_self
    have hlt := lt_mid pre t suf
    refine Ev.step (fun k => spec_eqLengths.l2.eq_2 ..) (ev_pos hlt (ev_pos (by omega) (ev_pos hlt ?_)))
    rw [rd_mid, next_mid pre t suf hr]
    refine ev_pos ht.1 (ev_pos ht.2 ?_)
    rw [setU] at h
    by_cases e : rdOf false acc t = true
    · refine ev_pos e (ih (pre ++ [t]) (acc.set t.toNat true) (assoc_mid _ _ _) (by simpa using hu) (fun y hy => by simpa using h2 y (List.mem_cons_of_mem _ hy)) ?_)
      rw [e, Bool.true_or] at h
      exact h
    · refine ev_neg e (ev_pos (by omega) (ih (pre ++ [t]) (acc.set t.toNat (rdOf false us t)) (assoc_mid _ _ _) (by simpa using hu) (fun y hy => by simpa using h2 y (List.mem_cons_of_mem _ hy)) ?_))
      rw [Bool.eq_false_iff.mpr e, Bool.false_or] at h
      exact h
theorem lens_l1 (us : List Bool) (hus : us.length = N.length) (hN : RowsIn N) (hn : N.length ≤ 12) (hr : ∀ x ∈ N, x.length ≤ maxLen) (hF : F.length ≤ maxLen) (x5 : List Bool) (h5 : x5.length ≤ 100) (x6 : Int) (x38 : List Bool) (hx : x38.length = N.length) : ∀ (suf pre acc : List Bool) (x7 : Bool), x38 = pre ++ suf → acc.length = N.length →
    Ev (fun k => spec_eqLengths.l0 k us (layU (fun t => rdOf false us t) N pre.length suf acc) (x5 ++ [x7 || accB F pre.length suf]) (wrap64 (x6 + 1)) L N F) R →
    Ev (fun k => spec_eqLengths.l1 k us x5 x6 x7 acc x38 (x38.length : Int) (pre.length : Int) L N F) R := by
  intro suf
  induction suf with
  | nil =>
    intro pre acc x7 h1 h2 h
    subst h1
    refine Ev.step (fun k => spec_eqLengths.l1.eq_2 ..) (ev_neg (by simp) (ev_pos (by omega) ?_))
    simpa [layU, accB] using h
  | cons b suf ih =>
    intro pre acc x7 h1 h2 h
    subst h1
    have hlt := lt_mid pre b suf
    have hpl : pre.length < N.length := by simp at hx; omega
    have hnx := next_mid pre b suf (by simp only [maxLen]; omega)
    refine Ev.step (fun k => spec_eqLengths.l1.eq_2 ..) (ev_pos hlt (ev_pos (by omega) (ev_pos hlt ?_)))
    rw [rdb_mid]
    rw [layU, accB] at h
    cases b with
    | false =>
      refine ev_neg (by simp) ?_
      rw [hnx]
      exact ih (pre ++ [false]) acc x7 (assoc_mid _ _ _) h2 (by simpa using h)
    | true =>
      have hrow : rd_L1 N (pre.length : Int) = N.getD pre.length [] := by simp [rd_L1]
      have hmem : N.getD pre.length [] ∈ N := by rw [← hrow]; exact rdl_mem (by omega) (by omega)
      rw [if_pos rfl] at h
      have j2 : ∀ x7' : Bool, x7' = (x7 || decide ((pre.length : Int) ∈ F)) → Ev (fun k => spec_eqLengths.j2 k us x5 x6 x7' acc (pre.length : Int) (pre ++ true :: suf) ((pre ++ true :: suf).length : Int) (pre.length : Int) L N F) R := fun x7' hx7 => by
        refine Ev.step (fun k => spec_eqLengths.j2.eq_2 ..) (ev_pos (by omega) (ev_pos (by omega) ?_))
        rw [hrow]
        refine lens_l2 us x5 x6 x7' _ _ _ _ (hr _ hmem) (N.getD pre.length []) [] acc rfl (by omega) (by rw [h2]; exact hN _ hpl) ?_
        rw [hnx]
        exact ih (pre ++ [true]) _ x7' (assoc_mid _ _ _) (by rw [setU_length, h2]) (by subst hx7; simpa [Bool.or_assoc] using h)
      refine ev_pos rfl ?_
      by_cases e : x7 = true
      · exact ev_pos e (j2 true (by simp [e]))
      · exact ev_neg e (ev_bind (l1Has F (pre.length : Int) hF) (j2 _ (by simp [e])))
theorem lens_l3 (x5 : List Bool) (h5 : x5.length ≤ 100) (l : List Bool) (hl : l.length ≤ maxLen) : ∀ (suf pre : List Bool) (g : Bool), l = pre ++ suf →
    Ev (fun k => spec_eqLengths.l3 k x5 g l (l.length : Int) (pre.length : Int)) (x5 ++ [g || anyB suf]) := by
  intro suf
  induction suf with
  | nil =>
    intro pre g h1
    subst h1
    exact Ev.step (fun k => spec_eqLengths.l3.eq_2 ..) (ev_neg (by simp) (ev_pos (by omega) (ev_const (by simp [anyB]))))
  | cons b suf ih =>
    intro pre g h1
    subst h1
    have hlt := lt_mid pre b suf
    refine Ev.step (fun k => spec_eqLengths.l3.eq_2 ..) (ev_pos hlt (ev_pos (by omega) (ev_pos hlt ?_)))
    rw [rdb_mid, next_mid pre b suf hl]
    by_cases e : g = true
    · refine ev_pos e ?_
      have := ih (pre ++ [b]) true (assoc_mid _ _ _)
      simpa [anyB, e] using this
    · refine ev_neg e ?_
      have := ih (pre ++ [b]) b (assoc_mid _ _ _)
      simpa [anyB, e] using this
theorem lens_l0 (us : List Bool) (hus : us.length = N.length) (hN : RowsIn N) (hn : N.length ≤ 12) (hr : ∀ x ∈ N, x.length ≤ maxLen) (hF : F.length ≤ maxLen) (s0 : List Bool) (h0 : s0.length = N.length) : ∀ (d m : Nat), m + d = N.length + 1 →
    Ev (fun k => spec_eqLengths.l0 k us (layers (fun t => rdOf false us t) N s0 m) (lensL (fun t => rdOf false us t) N F s0 m) (m : Int) L N F) (lensL (fun t => rdOf false us t) N F s0 (N.length + 1) ++ [anyB (layers (fun t => rdOf false us t) N s0 (N.length + 1))]) := by
  intro d
  induction d with
  | zero =>
    intro m hm
    obtain rfl : m = N.length + 1 := by omega
    refine Ev.step (fun k => spec_eqLengths.l0.eq_2 ..) (ev_neg (by omega) ?_)
    have := lens_l3 (lensL (fun t => rdOf false us t) N F s0 (N.length + 1)) (by rw [lensL_length]; omega) (layers (fun t => rdOf false us t) N s0 (N.length + 1)) (by rw [layers_length _ _ _ h0]; simp only [maxLen]; omega) _ [] false rfl
    rw [Bool.false_or] at this
    exact this
  | succ d ih =>
    intro m hm
    refine Ev.step (fun k => spec_eqLengths.l0.eq_2 ..) (ev_pos (by omega) (ev_pos (by omega) (ev_pos (by omega) ?_)))
    refine lens_l1 us hus hN hn hr hF _ (by rw [lensL_length]; omega) _ _ (layers_length _ _ _ h0 m) _ [] _ _ rfl (by simp) ?_
    rw [wrap_id (x := (m : Int) + 1) (by omega) (by omega)]
    have := ih (m + 1) (by omega)
    simpa [layers, nextU, lensL] using this
theorem eqLengths (us : List Bool) (hus : us.length = N.length) (hU : Ev (fun k => spec_eqUseful.f k L N F) us) (hN : RowsIn N) (h1 : 1 ≤ N.length) (hn : N.length ≤ 12) (hr : ∀ x ∈ N, x.length ≤ maxLen) (hF : F.length ≤ maxLen) :
    Ev (fun k => spec_eqLengths.f k L N F) (lensL (fun t => rdOf false us t) N F ((List.replicate N.length false).set 0 (rdOf false us 0)) (N.length + 1) ++ [anyB (layers (fun t => rdOf false us t) N ((List.replicate N.length false).set 0 (rdOf false us 0)) (N.length + 1))]) := by
  unfold spec_eqLengths.f
  refine ev_bind hU (ev_pos (by omega) (ev_pos (by omega) ?_))
  simp only [Option.bind_some]
  refine ev_pos (by omega) (ev_pos (by simp; omega) ?_)
  exact lens_l0 us hus hN hn hr hF _ (by simp) (N.length + 1) 0 (by omega)
end
end Go.Proofs.Ytkfedkckakegjaa.A
end

section
/- FnExactLongestAccepted: the program returns what the reference returns, for all automata. -/
namespace Go.Proofs.Ytkfedkckakegjaa.A
open Go.RowKit Go.Proofs.YtkfedkckakegjaaW.PrintWords Go.Proofs.YtkfedkckakegjaaW.PrintLast Go.Proofs.YtkfedkckakegjaaW.PrintMore Go.Proofs.Ytkfedkckakegjaa.P Go.Proofs.Ytkfedkckakegjaa.T Go.Proofs.Ytkfedkckakegjaa.Op
set_option linter.unusedVariables false
set_option linter.unusedSimpArgs false

section
variable {L : Int} {N : List (List Int)} {F : List Int}
theorem AuOk.rowsIn (h : AuOk L N F) : RowsIn N := by
  intro i hi t ht
  have := (h.2.2.1 _ (getD_mem hi)).2 t ht
  omega
theorem AuOk.edge (h : AuOk L N F) : ∀ x y, Edge N x y → y < N.length := by
  intro x y ⟨h1, h2⟩
  have := h.rowsIn x h1 _ h2
  omega
theorem getD_lt {l : List Bool} {j : Nat} (h : l.getD j false = true) : j < l.length := by
  refine Nat.lt_of_not_le (fun hl => ?_)
  rw [List.getD_eq_getElem?_getD, List.getElem?_eq_none hl] at h
  simp at h
/-- The layers of the program: what is reached by so many letters. -/
theorem layer_walk (h : AuOk L N F) : ∀ (m j : Nat), (layers (fun _ => true) N (lay0 N) m).getD j false = true ↔ Walk (Edge N) m 0 j := by
  have hn := h.2.1
  have h0 : (lay0 N).length = N.length := by simp [lay0]; omega
  intro m
  induction m with
  | zero =>
    intro j
    show (lay0 N).getD j false = true ↔ 0 = j
    cases j with
    | zero => simp [lay0]
    | succ j =>
      simp only [lay0, List.singleton_append, List.getD_cons_succ]
      have : (List.replicate (N.length - 1) false).getD j false = false := by
        rw [List.getD_eq_getElem?_getD, List.getElem?_replicate]; split <;> rfl
      rw [this]; simp
  | succ m ih =>
    intro j
    rw [layers, nextU_get _ N h.rowsIn _ (layers_length _ _ _ h0 m), Walk.last]
    simp only [ih, and_true]
/-- The layers of the reference: what is reached by so many letters and has a way on. -/
theorem layer_co (h : AuOk L N F) (us : List Bool) (hu : ∀ j, (∃ m, Walk (Edge N) m 0 j) → (us.getD j false = true ↔ CoAcc N F j)) (hul : us.length = N.length) (huv : ∀ j, us.getD j false = true → CoAcc N F j) :
    ∀ (m j : Nat), (layers (fun t => rdOf false us t) N ((List.replicate N.length false).set 0 (rdOf false us 0)) m).getD j false = true ↔ Walk (Edge N) m 0 j ∧ CoAcc N F j := by
  have hn := h.2.1
  have hs0 : ((List.replicate N.length false).set 0 (rdOf false us 0)).length = N.length := by simp
  have hU : ∀ j : Nat, rdOf false us (j : Int) = us.getD j false := fun j => by simp [rdOf]
  intro m
  induction m with
  | zero =>
    intro j
    show ((List.replicate N.length false).set 0 (rdOf false us 0)).getD j false = true ↔ 0 = j ∧ CoAcc N F j
    rw [getD_set _ _ _ _ (by simp; omega)]
    by_cases e : 0 = j
    · subst e
      rw [if_pos rfl, show rdOf false us 0 = us.getD 0 false from hU 0, hu 0 ⟨0, rfl⟩]
      simp
    · rw [if_neg e]
      have : (List.replicate N.length false).getD j false = false := by
        rw [List.getD_eq_getElem?_getD, List.getElem?_replicate]; split <;> rfl
      rw [this]; simp [e]
  | succ m ih =>
    intro j
    rw [layers, nextU_get _ N h.rowsIn _ (layers_length _ _ _ hs0 m), Walk.last]
    simp only [ih, hU]
    constructor
    · rintro ⟨s, ⟨h1, h2⟩, h3, h4⟩
      exact ⟨⟨s, h1, h3⟩, huv j h4⟩
    · rintro ⟨⟨s, h1, h3⟩, h4⟩
      obtain ⟨r, f, hf, hw⟩ := h4
      refine ⟨s, ⟨h1, ⟨r + 1, f, hf, j, h3, hw⟩⟩, h3, ?_⟩
      exact (hu j ⟨m + 1, Walk.last.2 ⟨s, h1, h3⟩⟩).2 ⟨r, f, hf, hw⟩
def Acc (N : List (List Int)) (F : List Int) (m : Nat) : Prop := AccL (Edge N) (fun f => (f : Int) ∈ F) m
theorem accB_acc (h : AuOk L N F) (m : Nat) : accB F 0 (layers (fun _ => true) N (lay0 N) m) = true ↔ Acc N F m := by
  rw [accB_get]
  simp only [layer_walk h, Nat.zero_add]
  constructor
  · rintro ⟨k, h1, h2⟩; exact ⟨k, h2, h1⟩
  · rintro ⟨k, h2, h1⟩; exact ⟨k, h1, h2⟩
/-- The useful states, as the reference finds them. -/
def usef (N : List (List Int)) (F : List Int) : List Bool := useGo N F (bfsA N).1 (List.replicate N.length false)
theorem usef_length : (usef N F).length = N.length := by simp [usef, useGo_length]
theorem usef_get (h : AuOk L N F) (j : Nat) : (usef N F).getD j false = true ↔ (j : Int) ∈ (bfsA N).1 ∧ CoAcc N F j := by
  have hb := (bfsA_end h).1
  unfold usef
  rw [useGo_get h j _ _ hb.valid hb.nodup (by simp)]
  have : (List.replicate N.length false).getD j false = false := by
    rw [List.getD_eq_getElem?_getD, List.getElem?_replicate]; split <;> rfl
  rw [this]
  split <;> simp [*]
theorem walk_bfsA (h : AuOk L N F) : ∀ (m : Nat) (j : Nat), Walk (Edge N) m 0 j → (j : Int) ∈ (bfsA N).1 := by
  obtain ⟨hb, hc⟩ := bfsA_end h
  intro m
  induction m with
  | zero => intro j hj; cases hj; exact List.mem_of_getElem? hb.start
  | succ m ih =>
    intro j hj
    obtain ⟨s, hs, he1, he2⟩ := Walk.last.1 hj
    obtain ⟨i, hi⟩ := List.getElem?_of_mem (ih s hs)
    refine hc i _ (List.getElem?_eq_some_iff.1 hi).1 hi _ ?_
    simpa [succA] using he2
theorem accB_len (h : AuOk L N F) (m : Nat) : accB F 0 (layers (fun t => rdOf false (usef N F) t) N ((List.replicate N.length false).set 0 (rdOf false (usef N F) 0)) m) = true ↔ Acc N F m := by
  have hco := layer_co h (usef N F) (fun j ⟨m, hm⟩ => by rw [usef_get h]; exact ⟨fun x => x.2, fun x => ⟨walk_bfsA h m j hm, x⟩⟩) usef_length (fun j hj => ((usef_get h j).1 hj).2)
  rw [accB_get]
  simp only [hco, Nat.zero_add]
  constructor
  · rintro ⟨k, h1, h2⟩; exact ⟨k, h2, h1.1⟩
  · rintro ⟨k, h2, h1⟩; exact ⟨k, ⟨h1, 0, k, h2, rfl⟩, h2⟩
/-- A word goes on for ever: some accepted word has more letters than there are states. -/
theorem going_acc (h : AuOk L N F) : anyB (layers (fun t => rdOf false (usef N F) t) N ((List.replicate N.length false).set 0 (rdOf false (usef N F) 0)) (N.length + 1)) = true ↔ ∃ m, N.length + 1 ≤ m ∧ Acc N F m := by
  have hco := layer_co h (usef N F) (fun j ⟨m, hm⟩ => by rw [usef_get h]; exact ⟨fun x => x.2, fun x => ⟨walk_bfsA h m j hm, x⟩⟩) usef_length (fun j hj => ((usef_get h j).1 hj).2)
  rw [anyB_get]
  simp only [hco]
  constructor
  · rintro ⟨k, h1, r, f, hf, hw⟩
    exact ⟨N.length + 1 + r, by omega, f, hf, h1.trans hw⟩
  · rintro ⟨m, hm, f, hf, hw⟩
    obtain ⟨v, v0, v1, v2⟩ := walk_fun hw
    refine ⟨v (N.length + 1), ?_, m - (N.length + 1), f, hf, ?_⟩
    · have := fun_walk v (N.length + 1) 0 (fun i _ hi => v2 i (by omega))
      rw [v0, Nat.zero_add] at this; exact this
    · have := fun_walk v (m - (N.length + 1)) (N.length + 1) (fun i _ hi => v2 i (by omega))
      rw [show N.length + 1 + (m - (N.length + 1)) = m by omega, v1] at this; exact this
theorem best_cases (h : AuOk L N F) : ∀ m : Nat, (bestL N F (lay0 N) m = -1 ∧ ∀ k, k < m → ¬ Acc N F k) ∨ ∃ b : Nat, bestL N F (lay0 N) m = b ∧ b < m ∧ Acc N F b ∧ ∀ k, b < k → k < m → ¬ Acc N F k := by
  intro m
  induction m with
  | zero => exact .inl ⟨rfl, fun k hk => by omega⟩
  | succ m ih =>
    rw [bestL]
    by_cases e : accB F 0 (layers (fun _ => true) N (lay0 N) m) = true
    · rw [if_pos e]
      exact .inr ⟨m, rfl, by omega, (accB_acc h m).1 e, fun k h1 h2 => by omega⟩
    · rw [if_neg e]
      have hna : ¬ Acc N F m := fun h2 => e ((accB_acc h m).2 h2)
      rcases ih with ⟨h1, h2⟩ | ⟨b, h1, h2, h3, h4⟩
      · refine .inl ⟨h1, fun k hk => ?_⟩
        by_cases hkm : k = m
        · subst hkm; exact hna
        · exact h2 k (by omega)
      · refine .inr ⟨b, h1, by omega, h3, fun k hk hk2 => ?_⟩
        by_cases hkm : k = m
        · subst hkm; exact hna
        · exact h4 k hk (by omega)
/-- Finitely many words: the program's test is the reference's. -/
theorem finite_iff (h : AuOk L N F) : bestL N F (lay0 N) (2 * N.length) < (N.length : Int) ↔ ¬ ∃ m, N.length + 1 ≤ m ∧ Acc N F m := by
  have hn : 0 < N.length := by have := h.2.1; omega
  constructor
  · rintro hb ⟨m, hm, ha⟩
    obtain ⟨k, h1, h2, h3⟩ := acc_less hn h.edge m (by omega) ha
    rcases best_cases h (2 * N.length) with ⟨_, h5⟩ | ⟨b, h4, h5, h6, h7⟩
    · exact h5 k h2 h3
    · rw [h4] at hb
      exact h7 k (by omega) h2 h3
  · intro hno
    rcases best_cases h (2 * N.length) with ⟨h4, _⟩ | ⟨b, h4, h5, h6, _⟩
    · rw [h4]; omega
    · rw [h4]
      refine Int.lt_of_not_ge (fun hge => hno ?_)
      exact acc_more hn h.edge h6 (by omega)
def lens (N : List (List Int)) (F : List Int) : List Bool := lensL (fun t => rdOf false (usef N F) t) N F ((List.replicate N.length false).set 0 (rdOf false (usef N F) 0)) (N.length + 1)
def goes (N : List (List Int)) (F : List Int) : Bool := anyB (layers (fun t => rdOf false (usef N F) t) N ((List.replicate N.length false).set 0 (rdOf false (usef N F) 0)) (N.length + 1))
theorem lens_length : (lens N F).length = N.length + 1 := by simp [lens, lensL_length]
theorem lengths (h : AuOk L N F) (hr : ∀ x ∈ N, x.length ≤ maxLen) (hF : F.length ≤ maxLen) : Ev (fun k => spec_eqLengths.f k L N F) (lens N F ++ [goes N F]) :=
  eqLengths (usef N F) usef_length (eqUseful h hr hF) h.rowsIn (by have := h.2.1; omega) (by have := h.2.1; omega) hr hF
theorem last_of (l : List Bool) (b : Bool) (hl : l.length ≤ 100) : wrap64 (((l ++ [b]).length : Int) - 1) = (l.length : Int) := by
  rw [List.length_append, List.length_singleton, wrap_id (by omega) (by omega)]; omega
theorem goes_eq (h : AuOk L N F) : goes N F = !decide (bestL N F (lay0 N) (2 * N.length) < (N.length : Int)) := by
  have h1 := going_acc h
  have h2 := finite_iff h
  unfold goes
  by_cases e : anyB (layers (fun t => rdOf false (usef N F) t) N ((List.replicate N.length false).set 0 (rdOf false (usef N F) 0)) (N.length + 1)) = true
  · rw [e, decide_eq_false (fun h3 => (h2.1 h3) (h1.1 e))]; rfl
  · rw [Bool.eq_false_iff.mpr e, decide_eq_true (h2.2 (fun h3 => e (h1.2 h3)))]; rfl
def bestUL (U : Int → Bool) (N : List (List Int)) (F : List Int) (s0 : List Bool) : Nat → Int
  | 0 => -1
  | m + 1 => if accB F 0 (layers U N s0 m) = true then (m : Int) else bestUL U N F s0 m
theorem lastGo_lens (U : Int → Bool) (N : List (List Int)) (F : List Int) (s0 : List Bool) : ∀ m, lastGo (lensL U N F s0 m) 0 (-1) = bestUL U N F s0 m := by
  intro m
  induction m with
  | zero => rfl
  | succ m ih =>
    rw [lensL, lastGo_snoc, bestUL, lensL_length, ih]
    split <;> simp
theorem ubest_cases (h : AuOk L N F) : ∀ m : Nat, (bestUL (fun t => rdOf false (usef N F) t) N F ((List.replicate N.length false).set 0 (rdOf false (usef N F) 0)) m = -1 ∧ ∀ k, k < m → ¬ Acc N F k) ∨ ∃ b : Nat, bestUL (fun t => rdOf false (usef N F) t) N F ((List.replicate N.length false).set 0 (rdOf false (usef N F) 0)) m = b ∧ b < m ∧ Acc N F b ∧ ∀ k, b < k → k < m → ¬ Acc N F k := by
  intro m
  induction m with
  | zero => exact .inl ⟨rfl, fun k hk => by omega⟩
  | succ m ih =>
    rw [bestUL]
    by_cases e : accB F 0 (layers (fun t => rdOf false (usef N F) t) N ((List.replicate N.length false).set 0 (rdOf false (usef N F) 0)) m) = true
    · rw [if_pos e]
      exact .inr ⟨m, rfl, by omega, (accB_len h m).1 e, fun k h1 h2 => by omega⟩
    · rw [if_neg e]
      have hna : ¬ Acc N F m := fun h2 => e ((accB_len h m).2 h2)
      rcases ih with ⟨h1, h2⟩ | ⟨b, h1, h2, h3, h4⟩
      · refine .inl ⟨h1, fun k hk => ?_⟩
        by_cases hkm : k = m
        · subst hkm; exact hna
        · exact h2 k (by omega)
      · refine .inr ⟨b, h1, by omega, h3, fun k hk hk2 => ?_⟩
        by_cases hkm : k = m
        · subst hkm; exact hna
        · exact h4 k hk (by omega)
def longR (L : Int) (N : List (List Int)) (F : List Int) : Int × Bool := if AuOk L N F then (if bestL N F (lay0 N) (2 * N.length) < (N.length : Int) ∧ 0 ≤ bestL N F (lay0 N) (2 * N.length) then (bestL N F (lay0 N) (2 * N.length), true) else (0, false)) else (0, false)
theorem lastB_lens (h : AuOk L N F) : lastB (lens N F ++ [goes N F]) = if bestL N F (lay0 N) (2 * N.length) < (N.length : Int) ∧ 0 ≤ bestL N F (lay0 N) (2 * N.length) then (bestL N F (lay0 N) (2 * N.length), true) else (0, false) := by
  have hn := h.2.1
  have hl : (lens N F).length = N.length + 1 := lens_length
  have e1 : (lens N F ++ [goes N F]).length - 1 = (lens N F).length := by simp
  have e2 : lastGo (lens N F) 0 (-1) = bestUL (fun t => rdOf false (usef N F) t) N F ((List.replicate N.length false).set 0 (rdOf false (usef N F) 0)) (N.length + 1) := lastGo_lens _ _ _ _ _
  unfold lastB
  rw [e1, List.take_left' rfl, e2, show (lens N F ++ [goes N F]).getD (lens N F).length false = goes N F by simp, goes_eq h]
  by_cases hb : bestL N F (lay0 N) (2 * N.length) < (N.length : Int)
  · rw [decide_eq_true hb]
    have hu := ubest_cases h (N.length + 1)
    have key : bestUL (fun t => rdOf false (usef N F) t) N F ((List.replicate N.length false).set 0 (rdOf false (usef N F) 0)) (N.length + 1) = bestL N F (lay0 N) (2 * N.length) := by
      rcases best_cases h (2 * N.length) with ⟨h1, h2⟩ | ⟨b, h1, h2, h3, h4⟩
      · rcases hu with ⟨g1, _⟩ | ⟨c, g1, g2, g3, _⟩
        · rw [g1, h1]
        · exact absurd g3 (h2 c (by omega))
      · rw [h1] at hb
        rcases hu with ⟨_, g2⟩ | ⟨c, g1, g2, g3, g4⟩
        · exact absurd h3 (g2 b (by omega))
        · rw [g1, h1]
          have : c = b := by
            rcases Nat.lt_trichotomy c b with q | q | q
            · exact absurd h3 (g4 b q (by omega))
            · exact q
            · exact absurd g3 (h4 c q (by omega))
          rw [this]
    rw [key]
    by_cases h0 : bestL N F (lay0 N) (2 * N.length) < 0
    · rw [if_pos (.inl h0), if_neg (by omega)]
    · rw [if_neg (by simp [h0]), if_pos (by omega)]
  · rw [decide_eq_false hb, if_pos (.inr rfl), if_neg (fun h2 => hb h2.1)]
theorem specLongestAccepted (L : Int) (N : List (List Int)) (F : List Int) (hN : N.length ≤ maxLen) (hr : ∀ x ∈ N, x.length ≤ maxLen) (hF : F.length ≤ maxLen) : Ev (fun k => spec_LongestAccepted.f k L N F) (longR L N F) := by
  unfold spec_LongestAccepted.f longR
  refine ev_bind (auGood L N F hN hr hF) ?_
  simp only [decide_eq_true_eq]
  by_cases h : AuOk L N F
  · rw [if_pos h]
    have hn := h.2.1
    have hl : (lens N F).length = N.length + 1 := lens_length
    refine ev_pos h (ev_bind (lengths h hr hF) (ev_pos (by simp; omega) (ev_const ?_)))
    rw [lastB_lens h]
  · rw [if_neg h]; exact ev_neg h (ev_const rfl)
theorem implLongestAccepted (L : Int) (N : List (List Int)) (F : List Int) (hN : N.length ≤ maxLen) (hr : ∀ x ∈ N, x.length ≤ maxLen) (hF : F.length ≤ maxLen) : Ev (fun k => impl_LongestAccepted.f k L N F) (longR L N F) := by
  unfold impl_LongestAccepted.f longR
  refine ev_bind (isAu L N F hN hr hF) ?_
  simp only [decide_eq_true_eq]
  by_cases h : AuOk L N F
  · rw [if_pos h]
    have hn := h.2.1
    refine ev_pos h (ev_bind (longestFrom h.rowsIn (by omega) (by omega) hr hF) ?_)
    simp only [decide_eq_true_eq]
    by_cases h1 : bestL N F (lay0 N) (2 * N.length) < (N.length : Int)
    · refine ev_pos h1 ?_
      by_cases h2 : bestL N F (lay0 N) (2 * N.length) < 0
      · have e : (if bestL N F (lay0 N) (2 * N.length) < (N.length : Int) ∧ 0 ≤ bestL N F (lay0 N) (2 * N.length) then (bestL N F (lay0 N) (2 * N.length), true) else ((0 : Int), false)) = (0, false) := if_neg (by omega)
        rw [e]; exact ev_pos h2 (ev_const rfl)
      · have e : (if bestL N F (lay0 N) (2 * N.length) < (N.length : Int) ∧ 0 ≤ bestL N F (lay0 N) (2 * N.length) then (bestL N F (lay0 N) (2 * N.length), true) else ((0 : Int), false)) = (bestL N F (lay0 N) (2 * N.length), true) := if_pos (by omega)
        rw [e]; exact ev_neg h2 (ev_const rfl)
    · have e : (if bestL N F (lay0 N) (2 * N.length) < (N.length : Int) ∧ 0 ≤ bestL N F (lay0 N) (2 * N.length) then (bestL N F (lay0 N) (2 * N.length), true) else ((0 : Int), false)) = (0, false) := if_neg (fun h3 => h1 h3.1)
      rw [e]; exact ev_neg h1 (ev_const rfl)
  · rw [if_neg h]; exact ev_neg h (ev_const rfl)
end
theorem lawFnExactLongestAccepted : fnExactLongestAccepted.Pure := by
  intro L N F hL hN hF
  have hNm : N.length ≤ maxLen := hN.1
  have hrm : ∀ x ∈ N, x.length ≤ maxLen := fun x hx => (hN.2 x hx).1
  refine Ev.rounds ?_
  unfold laws_FnExactLongestAccepted.f
  obtain ⟨s, hs, hsm⟩ := szAu L N F hNm hrm hF.1
  refine ev_bind hs ?_
  by_cases h : s < 0
  · exact ev_pos h (ev_const rfl)
  obtain ⟨_, h1, h2, h3⟩ := hsm (by omega)
  have hto := toAu L N F h1 h2 h3
  refine ev_neg h (ev_bind hto (ev_bind (specLongestAccepted L N F hNm hrm hF.1) (ev_bind hto (ev_bind (implLongestAccepted L N F hNm hrm hF.1) ?_))))
  refine ev_pos rfl (Ev.step (fun k => laws_FnExactLongestAccepted.j0.eq_2 ..) (ev_neg (by simp) (ev_bind hto (ev_bind (eqAu L N F hNm hrm hF.1) (ev_pos rfl (ev_const rfl))))))
end Go.Proofs.Ytkfedkckakegjaa.A
namespace Go.Proofs.Ytkfedkckakegjaa
/-- The row. -/
theorem fnExactLongestAccepted_holds : Rows.FnExactLongestAcceptedSaid := fnExactLongestAccepted.over A.lawFnExactLongestAccepted
end Go.Proofs.Ytkfedkckakegjaa
end
