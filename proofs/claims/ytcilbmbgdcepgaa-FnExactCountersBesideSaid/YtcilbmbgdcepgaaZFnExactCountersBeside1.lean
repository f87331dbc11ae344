/- FnExactCountersBeside: texts of this claim in one: Op, RowFnExactCountersBeside, ABc, LawCountersBeside. -/
import Derived.Deep.Slices
import Derived.ChangeSame
import Derived.ChangeArms
import Derived.Test.YtcilbmbgdcepgaaWWords
import Derived.Test.YtcilbmbgdcepgaaRows
import Derived.Test.YtcilbmbgdcepgaaYFnExactCountersBesidePx28
import Derived.WalkKit
import Derived.ProofKit
import Derived.OpenShut
import Derived.ShutString
import Derived.ChangeOld
import Derived.Below
import Derived.SizedLaws
import Derived.Test.YtcilbmbgdcepgaaZFnExactCountersBeside0
import Derived.Test.YtcilbmbgdcepgaaYFnExactCountersBesidePx14
import Derived.Test.YtcilbmbgdcepgaaYFnExactCountersBesidePx12
import Derived.Test.YtcilbmbgdcepgaaYFnExactCountersBesidePx15
import Derived.Test.YtcilbmbgdcepgaaYFnExactCountersBesideABo
import Derived.Test.YtcilbmbgdcepgaaYFnExactCountersBesideABes
import Derived.Test.YtcilbmbgdcepgaaYFnExactCountersBesidePx13
import Derived.Test.YtcilbmbgdcepgaaYFnExactCountersBesidePx20
section
/- Opens an argument that a row reads as data into the cells and lists that a contract speaks of: whole numbers, slices, structs of two and three fields. -/
namespace Go.Proofs.Ytcilbmbgdcepgaa.Op
open Go.ChangeShapes Go.WideShapes Go.Deep Go.RowKit Go.Proofs.YtcilbmbgdcepgaaW.PrintWords
set_option linter.unusedVariables false

/-- What reads as data of type t is of kind d, and meets wf. -/
def Opens (P : Program) (t : TypeId) {α : Type} (d : Kd α) (wf : α → Prop) : Prop :=
  ∀ {H : Type} {enc : TypeId × Value → H} {w : World} {base : Nat} {spare : Nat → Bool} {held : Bool} {fuel : Nat} {cs : List Value} {x : DataW H × List MemPlace},
    DataW.trod enc P w base spare held fuel t cs = some x → ∃ a, d.K w a cs ∧ wf a

def WNum (k : IntKind) (n : Int) : Prop := (Lit.int k n).wf = true
abbrev WInt : Int → Prop := WNum .i64
def WList {α : Type} (wf : α → Prop) (l : List α) : Prop := l.length ≤ maxLen ∧ ∀ a ∈ l, wf a

theorem opens_int {P : Program} {t : TypeId} {k : IntKind} (h : P.underlying t = some (.int k)) : Opens P t (Kd.int k) (WNum k) := by
  intro H enc w base spare held fuel cs x ht
  obtain ⟨n, rfl, _, hw⟩ := DataW.trod_int h ht
  exact ⟨n, rfl, hw⟩

theorem opens_slice {P : Program} {t e : TypeId} {α : Type} {d : Kd α} {wf : α → Prop} (q : Nat) (h : P.underlying t = some (.slice e)) (hc : P.cellsOf e = d.sz) (o : Opens P e d wf) :
    Opens P t (Kd.slice q d) (WList wf) := by
  intro H enc w base spare held fuel cs x ht
  rcases open_slice h ht with ⟨rfl, _⟩ | ⟨a, len, cap, m, n, D, Pl, rfl, hb, hl, hm, hmm, hx, hi⟩
  · exact ⟨[], ⟨none, 0, rfl, Nat.le_refl _, rfl, by simp, fun hn => by simp at hn⟩, by simp [WList]⟩
  · have hlm : len ≤ m := by rw [hmm]; split <;> omega
    have each : ∀ i, i < len → ∃ y cs', w.cells? base (a.add (i * d.sz)) d.sz = some cs' ∧ d.K w y cs' ∧ wf y := by
      intro i hil
      obtain ⟨cs', h1, h2⟩ := hi i (by omega)
      obtain ⟨y, hk, hw⟩ := o h2
      rw [hc] at h1
      exact ⟨y, cs', h1, hk, hw⟩
    have build : ∀ k, k ≤ len → ∃ ys : List α, ys.length = k ∧ (∀ y ∈ ys, wf y) ∧ ∀ j y, ys[j]? = some y → ∃ c, c.length = d.sz ∧ d.K w y c ∧ ∀ i u, c[i]? = some u → w.cell? (a.add (j * d.sz + i)) = some u := by
      intro k
      induction k with
      | zero => exact fun _ => ⟨[], rfl, by simp, by simp⟩
      | succ k ih =>
        intro hk
        obtain ⟨ys, hlen, hwf, hys⟩ := ih (by omega)
        obtain ⟨y, cs', h1, h2, h3⟩ := each k (by omega)
        obtain ⟨_, hcl, hat⟩ := World.cells?_some h1
        refine ⟨ys ++ [y], by simp [hlen], ?_, ?_⟩
        · intro z hz
          rcases List.mem_append.1 hz with hz | hz
          · exact hwf z hz
          · rw [List.mem_singleton.1 hz]; exact h3
        · intro j z hj
          by_cases hjk : j < k
          · rw [List.getElem?_append_left (by omega)] at hj
            exact hys j z hj
          · have hjl : j < (ys ++ [y]).length := (List.getElem?_eq_some_iff.1 hj).1
            simp only [List.length_append, List.length_singleton, hlen] at hjl
            obtain rfl : j = k := by omega
            rw [List.getElem?_append_right (by omega), hlen, Nat.sub_self] at hj
            obtain rfl : y = z := by simpa using hj
            refine ⟨cs', hcl, h2, fun i u hu => ?_⟩
            have hil : i < d.sz := by
              have := (List.getElem?_eq_some_iff.1 hu).1
              omega
            have := hat i hil
            rw [Go.Deep.add_add] at this
            rw [this, hu]
    obtain ⟨ys, hlen, hwf, hys⟩ := build len (Nat.le_refl _)
    have hmx : len ≤ maxLen := by omega
    exact ⟨ys, ⟨some a, cap, by rw [hlen], by rw [hlen]; exact hl, rfl, by rw [hlen]; exact hmx, fun _ => ⟨a, rfl, hys⟩⟩, by rw [hlen]; exact hmx, hwf⟩

theorem opens_iso {P : Program} {t : TypeId} {α β : Type} {d : Kd α} {wf : α → Prop} (f : β → α) (g : α → β) (hg : ∀ a, f (g a) = a) (o : Opens P t d wf) : Opens P t (Kd.iso d f) (fun b => wf (f b)) := by
  intro H enc w base spare held fuel cs x ht
  obtain ⟨a, h1, h2⟩ := o ht
  exact ⟨g a, by show d.K w (f (g a)) cs; rw [hg]; exact h1, by show wf (f (g a)); rw [hg]; exact h2⟩

theorem opens_two {P : Program} {t : TypeId} {f0 f1 : Field} {α β : Type} {a : Kd α} {b : Kd β} {wa : α → Prop} {wb : β → Prop}
    (h : P.underlying t = some (.struct #[f0, f1])) (hc : P.cellsOf t = a.sz + b.sz) (o0 : f0.offset = 0) (o1 : f1.offset = a.sz) (c0 : P.cellsOf f0.type = a.sz) (c1 : P.cellsOf f1.type = b.sz)
    (oa : Opens P f0.type a wa) (ob : Opens P f1.type b wb) : Opens P t (Kd.pair a b) (fun x => wa x.1 ∧ wb x.2) := by
  intro H enc w base spare held fuel cs x ht
  obtain ⟨xs, n, _, _, hlen, hxl, hf⟩ := DataW.trod_struct h ht
  have hx2 : xs.length = 2 := hxl
  have h0 := hf 0 f0 rfl
  have h1 := hf 1 f1 rfl
  rw [List.getElem?_eq_getElem (by omega)] at h0 h1
  obtain ⟨y0, k0, w0⟩ := oa h0
  obtain ⟨y1, k1, w1⟩ := ob h1
  refine ⟨(y0, y1), ⟨_, _, ?_, k0, k1⟩, w0, w1⟩
  rw [hc] at hlen
  rw [o0, o1, c0, c1, List.drop_zero]
  rw [List.take_of_length_le (l := cs.drop a.sz) (by simp; omega), List.take_append_drop]

theorem opens_three {P : Program} {t : TypeId} {f0 f1 f2 : Field} {α β γ : Type} {a : Kd α} {b : Kd β} {c : Kd γ} {wa : α → Prop} {wb : β → Prop} {wc : γ → Prop}
    (h : P.underlying t = some (.struct #[f0, f1, f2])) (hc : P.cellsOf t = a.sz + (b.sz + c.sz)) (o0 : f0.offset = 0) (o1 : f1.offset = a.sz) (o2 : f2.offset = a.sz + b.sz) (c0 : P.cellsOf f0.type = a.sz) (c1 : P.cellsOf f1.type = b.sz) (c2 : P.cellsOf f2.type = c.sz)
    (oa : Opens P f0.type a wa) (ob : Opens P f1.type b wb) (oc : Opens P f2.type c wc) : Opens P t (Kd.pair a (Kd.pair b c)) (fun x => wa x.1 ∧ wb x.2.1 ∧ wc x.2.2) := by
  intro H enc w base spare held fuel cs x ht
  obtain ⟨xs, n, _, _, hlen, hxl, hf⟩ := DataW.trod_struct h ht
  have hx2 : xs.length = 3 := hxl
  have h0 := hf 0 f0 rfl
  have h1 := hf 1 f1 rfl
  have h2 := hf 2 f2 rfl
  rw [List.getElem?_eq_getElem (by omega)] at h0 h1 h2
  obtain ⟨y0, k0, w0⟩ := oa h0
  obtain ⟨y1, k1, w1⟩ := ob h1
  obtain ⟨y2, k2, w2⟩ := oc h2
  rw [hc] at hlen
  refine ⟨(y0, y1, y2), ⟨_, cs.drop a.sz, ?_, k0, ⟨_, _, ?_, k1, k2⟩⟩, w0, w1, w2⟩
  · rw [o0, c0, List.drop_zero, List.take_append_drop]
  · rw [o1, o2, c1, c2]
    rw [List.take_of_length_le (l := cs.drop (a.sz + b.sz)) (by simp; omega), ← List.drop_drop, List.take_append_drop]

/-- A slice among the arguments. -/
theorem open_arg_slice {P : Program} {t : TypeId} {α : Type} {d : Kd α} {wf : α → Prop} {q : Nat} (o : Opens P t (Kd.slice q d) (WList wf)) {H : Type} {enc : TypeId × Value → H} {w : World} {base : Nat} {spare : Nat → Bool} {held : Bool}
    {A : Option Addr} {len cap : Nat} {D : DataW H} {ps : List MemPlace} (h : DataW.Trod enc P w base spare held t (.slice A len cap) D ps) :
    ∃ l : List α, len = l.length ∧ l.length ≤ cap ∧ d.C w A l.length l ∧ WList wf l := by
  obtain ⟨fuel, hf⟩ := h
  obtain ⟨l, ⟨A', c, he, hl, hC⟩, hw⟩ := o hf
  simp only [Value.cells, List.cons.injEq, Value.slice.injEq, and_true] at he
  obtain ⟨rfl, rfl, rfl⟩ := he
  exact ⟨l, rfl, hl, hC, hw⟩
end Go.Proofs.Ytcilbmbgdcepgaa.Op
end

section
/- FnExactCountersBeside: the program and the reference agree for all arguments: the row over the pure statement. -/
namespace Go.Proofs.Ytcilbmbgdcepgaa.fnExactCountersBeside
open Go.ChangeShapes Go.WideShapes Go.ChangeAt Go.RowKit
open Go.ChangeMaps (open_string shut_string)
open Go.Proofs.Ytcilbmbgdcepgaa.Op
set_option linter.unusedVariables false
def Pure : Prop := ∀ (a0 : Int) (a1 : Int) (a2 : Int), WNum .i64 a0 → WNum .i64 a1 → WNum .i64 a2 → ∃ k, P.laws_FnExactCountersBeside.f k a0 a1 a2 = some true
theorem own : ownKnob Try.prog.godebug = none := by kernel_rfl
set_option maxRecDepth 100000 in
theorem lifted (pure : Pure) (os : Os) (started : os.Started) (H : Type) (enc : TypeId × Value → H) :
    ReturnsInHanded {} Try.checked os 3 .any (Rows.fnExactCountersBesideSpec.pre6 enc Try.prog Try.f3 Rows.fnExactCountersBesideRow.domain false) (Rows.fnExactCountersBesideSpec.post enc Try.prog Try.f3 false true false false) := by
  refine returnsInHanded_of_change_sized (C := Try.checked) own started (by kernel_rfl) Try.func3
    (ChangeSpec.witness6 (enc := enc) (C := Try.checked) false ⟨#[], #[.int .i64 0, .int .i64 0, .int .i64 0], []⟩ 8 (by kernel_rfl) (by kernel_rfl) (by kernel_rfl) (by kernel_rfl)) ?_
  intro W base args ds gs before hval0 hW hcnd hsz0 _
  have hsz : (DataW.weightsEach Try.prog (Try.f3.params.toList ++ Rows.fnExactCountersBesideSpec.plain.varTypes Try.prog) (ds ++ gs)).all (· ≤ reachBytes) = true := hsz0
  have hval : ∀ (j : Nat) t v, Try.f3.params[j]? = some t → args[j]? = some v → Value.okWide Try.prog W .any base t v := hval0
  have hW' := hW
  obtain ⟨p, q, hA0, hV, rfl, hfz, hnd⟩ := hW
  have hA : DataW.TrodAll enc Try.prog W 0 (fun _ => true) true Try.f3.params.toList args.toList ds p := hA0
  rw [Try.params3] at hA hval hsz
  obtain ⟨v0, vs0, d0, ds0, p0, q0, hargs, rfl, rfl, h0, r0⟩ := trodAll_cons hA
  obtain ⟨v1, vs1, d1, ds1, p1, q1, rfl, rfl, rfl, h1, r1⟩ := trodAll_cons r0
  obtain ⟨v2, vs2, d2, ds2, p2, q2, rfl, rfl, rfl, h2, r2⟩ := trodAll_cons r1
  obtain ⟨rfl, rfl, rfl⟩ := trodAll_nil r2
  obtain rfl : args = #[v0, v1, v2] := by cases args; simp_all
  obtain ⟨rfl, rfl⟩ := trodVars_none hV
  obtain ⟨a0, rfl, rfl, rfl, w0⟩ := open_int Try.underlying3 (hval 0 3 v0 rfl rfl) h0
  obtain ⟨a1, rfl, rfl, rfl, w1⟩ := open_int Try.underlying3 (hval 1 3 v1 rfl rfl) h1
  obtain ⟨a2, rfl, rfl, rfl, w2⟩ := open_int Try.underlying3 (hval 2 3 v2 rfl rfl) h2
  clear hA0 hval0 hsz0 hsz
  obtain ⟨k, hk⟩ := pure a0 a1 a2 w0 w1 w2
  refine (P.laws_FnExactCountersBeside.calls k a0 a1 a2 true W  hk).mono fun e W' ⟨he, bel⟩ => ?_
  subst he
  exact ⟨_, rfl, _, _, _, [], _, [], hW', trodAll_mk1 (shut_bool Try.underlying4 _), (trodAll_cons_mk (shut_int Try.underlying3 w0) (trodAll_cons_mk (shut_int Try.underlying3 w1) (trodAll_cons_mk (shut_int Try.underlying3 w2) trodAll_mk0))), rfl, bel.frame _, fun h => by cases h⟩
theorem over (pure : Pure) : Rows.fnExactCountersBesideRow.holds Try.pinned (OpenSpec.ofChange Rows.fnExactCountersBesideSpec) :=
  OpenClaim.holds_of_wide 3 Try.f3 rfl rfl rfl rfl rfl rfl rfl ⟨rfl, rfl, rfl, rfl, rfl⟩ rfl rfl rfl rfl rfl (by kernel_rfl) Try.func3 (by kernel_rfl)
    (of_decide_eq_true (by kernel_rfl)) (by unfold Func.isWrapper; first | (rw [if_pos (by decide +kernel)]; kernel_rfl) | (rw [if_neg (by decide +kernel)]; exact ⟨rfl, rfl⟩))
    (fun os started H enc _ => lifted pure os started H enc)
end Go.Proofs.Ytcilbmbgdcepgaa.fnExactCountersBeside
end

section
/- What the printed functions on counters made of boards come to. -/
namespace Go.Proofs.Ytcilbmbgdcepgaa.A
open Go.RowKit Go.Proofs.YtcilbmbgdcepgaaW.PrintWords Go.Proofs.YtcilbmbgdcepgaaW.PrintLast Go.Proofs.YtcilbmbgdcepgaaW.PrintMore Go.Proofs.Ytcilbmbgdcepgaa.P Go.Proofs.Ytcilbmbgdcepgaa.T
set_option linter.unusedVariables false
set_option linter.unusedSimpArgs false

theorem five {n : Int} (h : 1 ≤ n ∧ n ≤ 5) : n = 1 ∨ n = 2 ∨ n = 3 ∨ n = 4 ∨ n = 5 := by omega
theorem u64_five (n : Int) (h : 1 ≤ n ∧ n ≤ 5) : IntKind.u64.wrap n = n := by
  rcases five h with rfl | rfl | rfl | rfl | rfl <;> decide
theorem shl_five (n : Int) (h : 1 ≤ n ∧ n ≤ 5) : 2 ≤ shl .i64 1 n ∧ shl .i64 1 n ≤ 32 := by
  rcases five h with rfl | rfl | rfl | rfl | rfl <;> decide
def AskB (n v : Int) : Prop := (1 ≤ n ∧ n ≤ 5) ∧ 0 ≤ v ∧ v < shl .i64 1 n
instance (n v : Int) : Decidable (AskB n v) := by unfold AskB; infer_instance
theorem bcBits (n : Int) : spec_bcBits.f n = some (decide (1 ≤ n ∧ n ≤ 5)) := by
  unfold spec_bcBits.f
  rw [in_f, Option.bind_some]
theorem bcAsked (n v : Int) : spec_bcAsked.f n v = some (decide (AskB n v)) := by
  unfold spec_bcAsked.f
  rw [bcBits, Option.bind_some]
  by_cases h : 1 ≤ n ∧ n ≤ 5
  · have h2 := shl_five n h
    have h3 : wrap64 (shl .i64 1 n - 1) = shl .i64 1 n - 1 := wrap_id (by omega) (by omega)
    rw [u64_five n h, if_pos (by simpa using h), if_pos (by omega), in_f, h3]
    simp only [Option.bind_some, Option.some.injEq, decide_eq_decide]
    unfold AskB
    omega
  · rw [if_neg (by simpa using h), decide_eq_false (fun h2 : AskB n v => h h2.1)]
theorem counterBoard_loop (n : Nat) (v : Int) (hn : 1 ≤ n ∧ n ≤ 5) : ∀ (d m : Nat), m + d = n → Ev (fun k => impl_counterBoard.l0 k n v m (2 * n) 3 (bcStage v n m)) (2 * (n : Int), 3, bcCells v n) := by
  intro d
  induction d with
  | zero =>
    intro m h
    obtain rfl : m = n := by omega
    refine Ev.step (fun k => impl_counterBoard.l0.eq_2 ..) (ev_neg (by omega) (ev_const ?_))
    simp [bcStage]
  | succ d ih =>
    intro m h
    have e6 : wrap64 (6 * (m : Int)) = 6 * m := wrap_id (by omega) (by omega)
    have e1 : wrap64 (6 * (m : Int) + 1) = 6 * m + 1 := wrap_id (by omega) (by omega)
    have e5 : wrap64 (6 * (m : Int) + 5) = 6 * m + 5 := wrap_id (by omega) (by omega)
    have hl := bcStage_length v n m (by omega)
    refine Ev.step (fun k => impl_counterBoard.l0.eq_2 ..) (ev_pos (by omega) (ev_pos (by omega) ?_))
    simp only [e6, e1, e5]
    refine ev_pos (by omega) (ev_pos (by omega) (ev_pos (by omega) (ev_pos (by omega) ?_)))
    rw [wrap_id (x := (m : Int) + 1) (by omega) (by omega), show (6 * (m : Int) + 1).toNat = 6 * m + 1 by omega, show (6 * (m : Int) + 5).toNat = 6 * m + 5 by omega]
    have := bcStage_next v n m (by omega)
    unfold bcBit at this
    rw [this]
    exact ih (m + 1) (by omega)
theorem counterBoard (n v : Int) (hn : 1 ≤ n ∧ n ≤ 5) : Ev (fun k => impl_counterBoard.f k n v) (2 * n, 3, bcCells v n.toNat) := by
  obtain ⟨m, rfl⟩ := Int.eq_ofNat_of_zero_le (show 0 ≤ n by omega)
  unfold impl_counterBoard.f
  rw [wrap_id (x := 6 * (m : Int)) (by omega) (by omega), wrap_id (x := 2 * (m : Int)) (by omega) (by omega)]
  refine ev_pos (by omega) (ev_pos (by omega) ?_)
  have := counterBoard_loop m v (by omega) m 0 (by omega)
  rw [show (6 * (m : Int)).toNat = 6 * m by omega, Int.toNat_natCast]
  simpa [bcStage, bcCells] using this
theorem bcBoard (n v : Int) (hn : 1 ≤ n ∧ n ≤ 5) (k : Nat) : spec_bcBoard.f k n v = some (2 * n, 3, bcCells v n.toNat) := by
  unfold spec_bcBoard.f; rw [if_pos hn]
def counterB (n v : Int) : Int × Int × List S71 × Bool := if AskB n v then (2 * n, 3, bcCells v n.toNat, true) else (0, 0, [], false)
theorem counterB_len (n v : Int) : (counterB n v).2.2.1.length ≤ 30 := by
  unfold counterB
  split
  · rename_i h
    have := h.1
    simp only [bcCells_length]; omega
  · simp
theorem implCounterBoard (n v : Int) : Ev (fun k => impl_CounterBoard.f k n v) (counterB n v) := by
  unfold impl_CounterBoard.f counterB
  by_cases h : AskB n v
  · rw [if_pos h]
    obtain ⟨h1, h2, h3⟩ := h
    exact ev_neg (by omega) (ev_neg (by omega) (ev_neg (by omega) (ev_pos (by omega) (ev_neg (by omega) (ev_bind (counterBoard n v h1) (ev_const rfl))))))
  · rw [if_neg h]
    by_cases h1 : n < 1
    · exact ev_pos h1 (ev_const rfl)
    refine ev_neg h1 ?_
    by_cases h2 : n > 5
    · exact ev_pos h2 (ev_const rfl)
    refine ev_neg h2 ?_
    by_cases h3 : v < 0
    · exact ev_pos h3 (ev_const rfl)
    refine ev_neg h3 (ev_pos (by omega) (ev_pos ?_ (ev_const rfl)))
    unfold AskB at h
    omega
end Go.Proofs.Ytcilbmbgdcepgaa.A
end

section
/- CountersBeside: the program returns what the reference returns, for all int64 arguments. -/
namespace Go.Proofs.Ytcilbmbgdcepgaa.A
open Go.RowKit Go.Proofs.YtcilbmbgdcepgaaW.PrintWords Go.Proofs.YtcilbmbgdcepgaaW.PrintLast Go.Proofs.YtcilbmbgdcepgaaW.PrintMore Go.Proofs.Ytcilbmbgdcepgaa.P Go.Proofs.Ytcilbmbgdcepgaa.T Go.Proofs.Ytcilbmbgdcepgaa.Op
set_option linter.unusedVariables false
set_option linter.unusedSimpArgs false
theorem bit_all : ∀ i ∈ List.range 5, ∀ v ∈ List.range 32, (Go.bits .and .i64 (shr .i64 ((v : Nat) : Int) ((i : Nat) : Int)) 1 = 0 ∨ Go.bits .and .i64 (shr .i64 ((v : Nat) : Int) ((i : Nat) : Int)) 1 = 1) := by decide +kernel
theorem AskB.lt {n v : Int} (h : AskB n v) : 0 ≤ v ∧ v < 32 := by
  have := (shl_five n h.1).2
  have := h.2
  omega
theorem bcCells_ok {v : Int} (hv : 0 ≤ v ∧ v < 32) : ∀ m : Nat, m ≤ 5 → ∀ x ∈ bcCells v m, CellOk x.f0 x.f1 := by
  intro m
  induction m with
  | zero => intro _ x hx; simp [bcCells] at hx
  | succ m ih =>
    intro hm x hx
    unfold bcCells at hx
    rcases List.mem_append.1 hx with hx | hx
    · exact ih (by omega) x hx
    · obtain ⟨u, rfl⟩ : ∃ u : Nat, v = (u : Int) := ⟨v.toNat, by omega⟩
      have hb : bcBit (u : Int) m = 0 ∨ bcBit (u : Int) m = 1 := bit_all m (List.mem_range.2 (by omega)) u (List.mem_range.2 (by omega))
      simp only [bcSix, List.mem_cons, List.not_mem_nil, or_false] at hx
      have hz : CellOk z71.f0 z71.f1 := by decide
      rcases hx with rfl | rfl | rfl | rfl | rfl | rfl
      · exact hz
      · refine ⟨⟨show (0 : Int) ≤ 3 by decide, show (3 : Int) ≤ 7 by decide⟩, ?_⟩
        rcases hb with hb | hb
        · exact Or.inl hb
        · exact Or.inr ⟨hb, Or.inl rfl⟩
      · exact hz
      · exact hz
      · exact hz
      · exact ⟨by decide, by decide⟩
theorem AskB.bo {n v : Int} (h : AskB n v) : BoOk (2 * n) 3 (bcCells v n.toNat) := by
  have h5 := h.1
  refine ⟨by omega, by decide, ?_, ?_⟩
  · rw [bcCells_length]; omega
  · exact bcCells_ok h.lt n.toNat (by omega)
def resBes (n a b : Int) : Int × Int × List S71 × Bool := if AskB n a ∧ AskB n b then (2 * n, 6, besQ (2 * n) 3 3 (bcCells a n.toNat) (bcCells b n.toNat), true) else (0, 0, [], false)
theorem AskB.two {n a b : Int} (ha : AskB n a) (hb : AskB n b) : BesOk (2 * n) 3 3 (bcCells a n.toNat) (bcCells b n.toNat) := ⟨ha.bo, hb.bo, by decide⟩
theorem resBes_len (n a b : Int) : (resBes n a b).2.2.1.length ≤ 90 := by
  unfold resBes
  by_cases h : AskB n a ∧ AskB n b
  · rw [if_pos h]
    have h5 := h.1.1
    have hk := h.1.two h.2
    obtain ⟨m, hm⟩ : ∃ m : Nat, 2 * n = (m : Int) := ⟨(2 * n).toNat, by omega⟩
    rw [hm] at hk
    have h1 := (bes_ok (ca := 3) (cb := 3) hk).len
    rw [hm]
    exact h1
  · rw [if_neg h]; simp
theorem specBeside (n a b : Int) : Ev (fun k => spec_CountersBeside.f k n a b) (resBes n a b) := by
  unfold spec_CountersBeside.f resBes
  refine ev_bindc (bcAsked n a) ?_
  by_cases ha : AskB n a
  · refine ev_pos (by simpa using ha) (ev_bindc (bcAsked n b) ?_)
    by_cases hb : AskB n b
    · rw [if_pos ⟨ha, hb⟩]
      refine Ev.step (fun k => spec_CountersBeside.j0.eq_2 ..) (ev_neg (by simpa using hb) ?_)
      refine ev_bind (a := (2 * n, 3, bcCells a n.toNat)) ⟨0, fun k _ => bcBoard n a ha.1 k⟩ (ev_bind (a := (2 * n, 3, bcCells b n.toNat)) ⟨0, fun k _ => bcBoard n b hb.1 k⟩ ?_)
      refine ev_bind (a := (2 * n, 6, besQ (2 * n) 3 3 (bcCells a n.toNat) (bcCells b n.toNat), true)) ?_ (ev_const rfl)
      unfold spec_BesideBoards.f
      exact ev_const (if_pos ⟨rfl, ha.two hb⟩)
    · rw [if_neg (fun h => hb h.2)]
      exact Ev.step (fun k => spec_CountersBeside.j0.eq_2 ..) (ev_pos (by simpa using hb) (ev_const rfl))
  · rw [if_neg (fun h => ha h.1)]
    exact ev_neg (by simpa using ha) (Ev.step (fun k => spec_CountersBeside.j0.eq_2 ..) (ev_pos rfl (ev_const rfl)))
theorem bes_loop (R : Nat) (A B : List S71) (hR : R ≤ 10) (hA : A.length = R * 3) (hB : B.length = R * 3) : ∀ (d r : Nat) (acc : List S71), r + d = R → acc.length ≤ r * 6 →
    Ev (fun k => impl_BesideBoards.l0 k (r : Int) (R : Int) 3 A (R : Int) 3 B (R : Int) 6 acc) ((R : Int), 6, besL 3 3 A B d r acc, true) := by
  intro d
  induction d with
  | zero =>
    intro r acc hr ha
    exact Ev.step (fun k => impl_BesideBoards.l0.eq_2 ..) (ev_neg (by omega) (ev_const rfl))
  | succ d ih =>
    intro r acc hr ha
    have w1 : wrap64 ((r : Int) * 3) = ((r * 3 : Nat) : Int) := (wrap_id (by omega) (by omega)).trans (by omega)
    have w2 : wrap64 ((r : Int) + 1) = ((r + 1 : Nat) : Int) := (wrap_id (by omega) (by omega)).trans (by omega)
    have w3 : wrap64 (((r + 1 : Nat) : Int) * 3) = (((r + 1) * 3 : Nat) : Int) := (wrap_id (by omega) (by omega)).trans (by omega)
    refine Ev.step (fun k => impl_BesideBoards.l0.eq_2 ..) (ev_pos (by omega) ?_)
    simp only [w1, w2, w3, Int.toNat_natCast]
    have t1 : ((A.take ((r + 1) * 3)).drop (r * 3)) = (A.drop (r * 3)).take 3 := by rw [List.drop_take, show (r + 1) * 3 - r * 3 = 3 by omega]
    have t2 : ((B.take ((r + 1) * 3)).drop (r * 3)) = (B.drop (r * 3)).take 3 := by rw [List.drop_take, show (r + 1) * 3 - r * 3 = 3 by omega]
    rw [t1, t2]
    have n1 : ((A.drop (r * 3)).take 3).length ≤ 3 := List.length_take_le _ _
    have n2 : ((B.drop (r * 3)).take 3).length ≤ 3 := List.length_take_le _ _
    refine ev_pos (by omega) (ev_pos (by omega) (ev_pos (by rw [hA]; omega) (ev_bindc rfl (ev_pos (by omega) (ev_bindc rfl (ev_pos (by omega) (ev_pos (by omega) (ev_pos (by rw [hB]; omega) (ev_bindc rfl (ev_pos (by rw [List.length_append]; omega) ?_))))))))))
    have := ih (r + 1) ((acc ++ (A.drop (r * 3)).take 3) ++ (B.drop (r * 3)).take 3) (by omega) (by simp only [List.length_append]; omega)
    rw [besL]
    exact this
theorem implBeside (n a b : Int) : Ev (fun k => impl_CountersBeside.f k n a b) (resBes n a b) := by
  unfold impl_CountersBeside.f resBes
  refine ev_bind (implCounterBoard n a) (ev_bind (implCounterBoard n b) ?_)
  unfold counterB
  by_cases ha : AskB n a
  · rw [if_pos ha]
    by_cases hb : AskB n b
    · rw [if_pos hb, if_pos ⟨ha, hb⟩]
      refine ev_pos rfl (ev_pos rfl (ev_bind (a := (2 * n, 6, besQ (2 * n) 3 3 (bcCells a n.toNat) (bcCells b n.toNat), true)) ?_ (ev_const rfl)))
      have h5 := ha.1
      have ma := bcCells_length a n.toNat
      have mb := bcCells_length b n.toNat
      unfold impl_BesideBoards.f
      refine ev_bind (isBoard _ _ _ (by simp only [maxLen]; omega)) (ev_pos (by simpa using ha.bo) (ev_bind (isBoard _ _ _ (by simp only [maxLen]; omega)) (ev_pos (by simpa using hb.bo) (ev_pos rfl ?_))))
      refine Ev.step (fun k => impl_BesideBoards.j0.eq_2 ..) (ev_neg (show ¬ decide (wrap64 ((3 : Int) + 3) > 9) = true by rw [wrap_id (by omega) (by omega)]; decide) ?_)
      obtain ⟨m, hm⟩ : ∃ m : Nat, 2 * n = (m : Int) := ⟨(2 * n).toNat, by omega⟩
      have := bes_loop m (bcCells a n.toNat) (bcCells b n.toNat) (by omega) (by omega) (by omega) m 0 [] (by omega) (by simp)
      rw [hm]
      unfold besQ
      have e6 : wrap64 ((3 : Int) + 3) = 6 := wrap_id (by omega) (by omega)
      show Ev (fun k => impl_BesideBoards.l0 k 0 (m : Int) 3 (bcCells a n.toNat) (m : Int) 3 (bcCells b n.toNat) (m : Int) (wrap64 ((3 : Int) + 3)) []) ((m : Int), 6, besL 3 3 (bcCells a n.toNat) (bcCells b n.toNat) ((m : Int)).toNat 0 [], true)
      rw [e6, Int.toNat_natCast]
      exact this
    · rw [if_neg hb, if_neg (c := AskB n a ∧ AskB n b) (fun h => hb h.2)]
      exact ev_pos rfl (ev_neg (by simp) (ev_const rfl))
  · rw [if_neg ha, if_neg (c := AskB n a ∧ AskB n b) (fun h => ha h.1)]
    exact ev_neg (by simp) (ev_const rfl)
theorem lawCountersBeside : fnExactCountersBeside.Pure := by
  intro n a b hn ha hb
  refine Ev.rounds ?_
  unfold laws_FnExactCountersBeside.f
  have hl := resBes_len n a b
  have hm : (resBes n a b).2.2.1.length ≤ maxLen := by simp only [maxLen]; omega
  have bi := implBeside n a b
  refine ev_bind (specBeside n a b) (ev_bind bi (ev_bind (eqBo _ _ _ hm) (ev_pos rfl ?_)))
  refine Ev.step (fun k => laws_FnExactCountersBeside.j0.eq_2 ..) (ev_neg (by simp) ?_)
  refine ev_bind (markBo _ _ _ 1 hm (by omega) (by omega)) (ev_bind (heldBo _ _ _ 1 hm (by omega) (by omega)) (ev_neg (by simp; omega) (ev_pos rfl (ev_bind bi (ev_bind (eqBo _ _ _ hm) (ev_pos rfl ?_))))))
  refine Ev.step (fun k => laws_FnExactCountersBeside.j1.eq_2 ..) (ev_neg (by simp) ?_)
  exact ev_bind (heldBo _ _ _ 1 hm (by omega) (by omega)) (ev_neg (by simp; omega) (ev_pos rfl (ev_const rfl)))
end Go.Proofs.Ytcilbmbgdcepgaa.A
namespace Go.Proofs.Ytcilbmbgdcepgaa
/-- The row. -/
theorem fnExactCountersBeside_holds : Rows.FnExactCountersBesideSaid := fnExactCountersBeside.over A.lawCountersBeside
end Go.Proofs.Ytcilbmbgdcepgaa
end
