/- FnExactCounterBoard: texts of this claim in one: Op, RowFnExactCounterBoard, T, ABase, ABo, ABc, LawCounterBoard. -/
import Derived.Deep.Slices
import Derived.ChangeSame
import Derived.ChangeArms
import Derived.Test.YtlagoaoenaaglaaWWords
import Derived.Test.YtlagoaoenaaglaaRows
import Derived.Test.YtlagoaoenaaglaaPx37
import Derived.WalkKit
import Derived.ProofKit
import Derived.OpenShut
import Derived.ShutString
import Derived.ChangeOld
import Derived.Below
import Derived.SizedLaws
import Derived.Test.YtlagoaoenaaglaaWMore
import Derived.Test.YtlagoaoenaaglaaPx1
import Derived.Test.YtlagoaoenaaglaaPx46
import Derived.Test.YtlagoaoenaaglaaPx47
import Derived.Test.YtlagoaoenaaglaaPx38
import Derived.Test.YtlagoaoenaaglaaPx39
import Derived.Test.YtlagoaoenaaglaaPx25
import Derived.Test.YtlagoaoenaaglaaPx26
import Derived.Test.YtlagoaoenaaglaaPx27
import Derived.Test.YtlagoaoenaaglaaPx28
import Derived.Test.YtlagoaoenaaglaaPx29
import Derived.Test.YtlagoaoenaaglaaPx30
import Derived.Test.YtlagoaoenaaglaaPx40
import Derived.Test.YtlagoaoenaaglaaPx41
import Derived.Test.YtlagoaoenaaglaaPx48
import Derived.Test.YtlagoaoenaaglaaPx42
import Derived.Test.YtlagoaoenaaglaaPx49
import Derived.Test.YtlagoaoenaaglaaPx50
import Derived.Test.YtlagoaoenaaglaaPx43
import Derived.Test.YtlagoaoenaaglaaPx51
import Derived.Test.YtlagoaoenaaglaaPx3
import Derived.Test.YtlagoaoenaaglaaPx2
import Derived.Test.YtlagoaoenaaglaaPx35
import Derived.Test.YtlagoaoenaaglaaPx33
import Derived.Test.YtlagoaoenaaglaaPx34
import Derived.Test.YtlagoaoenaaglaaPx36
section
/- Opens an argument that a row reads as data into the cells and lists that a contract speaks of: whole numbers, slices, structs of two and three fields. -/
namespace Go.Proofs.Ytlagoaoenaaglaa.Op
open Go.ChangeShapes Go.WideShapes Go.Deep Go.RowKit Go.Proofs.YtlagoaoenaaglaaW.PrintWords
set_option linter.unusedVariables false

/-- What reads as data of type t is of kind d, and meets wf. -/
def Opens (P : Program) (t : TypeId) {α : Type} (d : Kd α) (wf : α → Prop) : Prop :=
  ∀ {H : Type} {enc : TypeId × Value → H} {w : World} {base : Nat} {spare : Nat → Bool} {held : Bool} {fuel : Nat} {cs : List Value} {x : DataW H × List MemPlace},
    DataW.trod enc P w base spare held fuel t cs = some x → ∃ a, d.K w a cs ∧ wf a

def WNum (k : IntKind) (n : Int) : Prop := (Lit.int k n).wf = true
abbrev WInt : Int → Prop := WNum .i64
def WList {α : Type} (wf : α → Prop) (l : List α) : Prop := l.length ≤ maxLen ∧ ∀ a ∈ l, wf a

theorem opens_int {P : Program} {t : TypeId} {k : IntKind} (h : P.underlying t = some (.int k)) : Opens P t (Kd.int k) (WNum k) := by
  intro H enc w base spare held fuel cs x ht
  obtain ⟨n, rfl, _, hw⟩ := DataW.trod_int h ht
  exact ⟨n, rfl, hw⟩

theorem opens_slice {P : Program} {t e : TypeId} {α : Type} {d : Kd α} {wf : α → Prop} (q : Nat) (h : P.underlying t = some (.slice e)) (hc : P.cellsOf e = d.sz) (o : Opens P e d wf) :
    Opens P t (Kd.slice q d) (WList wf) := by
  intro H enc w base spare held fuel cs x ht
  rcases open_slice h ht with ⟨rfl, _⟩ | ⟨a, len, cap, m, n, D, Pl, rfl, hb, hl, hm, hmm, hx, hi⟩
  · exact ⟨[], ⟨none, 0, rfl, Nat.le_refl _, rfl, by simp, fun hn => by simp at hn⟩, by simp [WList]⟩
  · have hlm : len ≤ m := by rw [hmm]; split <;> omega
    have each : ∀ i, i < len → ∃ y cs', w.cells? base (a.add (i * d.sz)) d.sz = some cs' ∧ d.K w y cs' ∧ wf y := by
      intro i hil
      obtain ⟨cs', h1, h2⟩ := hi i (by omega)
      obtain ⟨y, hk, hw⟩ := o h2
      rw [hc] at h1
      exact ⟨y, cs', h1, hk, hw⟩
    have build : ∀ k, k ≤ len → ∃ ys : List α, ys.length = k ∧ (∀ y ∈ ys, wf y) ∧ ∀ j y, ys[j]? = some y → ∃ c, c.length = d.sz ∧ d.K w y c ∧ ∀ i u, c[i]? = some u → w.cell? (a.add (j * d.sz + i)) = some u := by
      intro k
      induction k with
      | zero => exact fun _ => ⟨[], rfl, by simp, by simp⟩
      | succ k ih =>
        intro hk
        obtain ⟨ys, hlen, hwf, hys⟩ := ih (by omega)
        obtain ⟨y, cs', h1, h2, h3⟩ := each k (by omega)
        obtain ⟨_, hcl, hat⟩ := World.cells?_some h1
        refine ⟨ys ++ [y], by simp [hlen], ?_, ?_⟩
        · intro z hz
          rcases List.mem_append.1 hz with hz | hz
          · exact hwf z hz
          · rw [List.mem_singleton.1 hz]; exact h3
        · intro j z hj
          by_cases hjk : j < k
          · rw [List.getElem?_append_left (by omega)] at hj
            exact hys j z hj
          · have hjl : j < (ys ++ [y]).length := (List.getElem?_eq_some_iff.1 hj).1
            simp only [List.length_append, List.length_singleton, hlen] at hjl
            obtain rfl : j = k := by omega
            rw [List.getElem?_append_right (by omega), hlen, Nat.sub_self] at hj
            obtain rfl : y = z := by simpa using hj
            refine ⟨cs', hcl, h2, fun i u hu => ?_⟩
            have hil : i < d.sz := by
              have := (List.getElem?_eq_some_iff.1 hu).1
              omega
            have := hat i hil
            rw [Go.Deep.add_add] at this
            rw [this, hu]
    obtain ⟨ys, hlen, hwf, hys⟩ := build len (Nat.le_refl _)
    have hmx : len ≤ maxLen := by omega
    exact ⟨ys, ⟨some a, cap, by rw [hlen], by rw [hlen]; exact hl, rfl, by rw [hlen]; exact hmx, fun _ => ⟨a, rfl, hys⟩⟩, by rw [hlen]; exact hmx, hwf⟩

theorem opens_iso {P : Program} {t : TypeId} {α β : Type} {d : Kd α} {wf : α → Prop} (f : β → α) (g : α → β) (hg : ∀ a, f (g a) = a) (o : Opens P t d wf) : Opens P t (Kd.iso d f) (fun b => wf (f b)) := by
  intro H enc w base spare held fuel cs x ht
  obtain ⟨a, h1, h2⟩ := o ht
  exact ⟨g a, by show d.K w (f (g a)) cs; rw [hg]; exact h1, by show wf (f (g a)); rw [hg]; exact h2⟩

theorem opens_two {P : Program} {t : TypeId} {f0 f1 : Field} {α β : Type} {a : Kd α} {b : Kd β} {wa : α → Prop} {wb : β → Prop}
    (h : P.underlying t = some (.struct #[f0, f1])) (hc : P.cellsOf t = a.sz + b.sz) (o0 : f0.offset = 0) (o1 : f1.offset = a.sz) (c0 : P.cellsOf f0.type = a.sz) (c1 : P.cellsOf f1.type = b.sz)
    (oa : Opens P f0.type a wa) (ob : Opens P f1.type b wb) : Opens P t (Kd.pair a b) (fun x => wa x.1 ∧ wb x.2) := by
  intro H enc w base spare held fuel cs x ht
  obtain ⟨xs, n, _, _, hlen, hxl, hf⟩ := DataW.trod_struct h ht
  have hx2 : xs.length = 2 := hxl
  have h0 := hf 0 f0 rfl
  have h1 := hf 1 f1 rfl
  rw [List.getElem?_eq_getElem (by omega)] at h0 h1
  obtain ⟨y0, k0, w0⟩ := oa h0
  obtain ⟨y1, k1, w1⟩ := ob h1
  refine ⟨(y0, y1), ⟨_, _, ?_, k0, k1⟩, w0, w1⟩
  rw [hc] at hlen
  rw [o0, o1, c0, c1, List.drop_zero]
  rw [List.take_of_length_le (l := cs.drop a.sz) (by simp; omega), List.take_append_drop]

theorem opens_three {P : Program} {t : TypeId} {f0 f1 f2 : Field} {α β γ : Type} {a : Kd α} {b : Kd β} {c : Kd γ} {wa : α → Prop} {wb : β → Prop} {wc : γ → Prop}
    (h : P.underlying t = some (.struct #[f0, f1, f2])) (hc : P.cellsOf t = a.sz + (b.sz + c.sz)) (o0 : f0.offset = 0) (o1 : f1.offset = a.sz) (o2 : f2.offset = a.sz + b.sz) (c0 : P.cellsOf f0.type = a.sz) (c1 : P.cellsOf f1.type = b.sz) (c2 : P.cellsOf f2.type = c.sz)
    (oa : Opens P f0.type a wa) (ob : Opens P f1.type b wb) (oc : Opens P f2.type c wc) : Opens P t (Kd.pair a (Kd.pair b c)) (fun x => wa x.1 ∧ wb x.2.1 ∧ wc x.2.2) := by
  intro H enc w base spare held fuel cs x ht
  obtain ⟨xs, n, _, _, hlen, hxl, hf⟩ := DataW.trod_struct h ht
  have hx2 : xs.length = 3 := hxl
  have h0 := hf 0 f0 rfl
  have h1 := hf 1 f1 rfl
  have h2 := hf 2 f2 rfl
  rw [List.getElem?_eq_getElem (by omega)] at h0 h1 h2
  obtain ⟨y0, k0, w0⟩ := oa h0
  obtain ⟨y1, k1, w1⟩ := ob h1
  obtain ⟨y2, k2, w2⟩ := oc h2
  rw [hc] at hlen
  refine ⟨(y0, y1, y2), ⟨_, cs.drop a.sz, ?_, k0, ⟨_, _, ?_, k1, k2⟩⟩, w0, w1, w2⟩
  · rw [o0, c0, List.drop_zero, List.take_append_drop]
  · rw [o1, o2, c1, c2]
    rw [List.take_of_length_le (l := cs.drop (a.sz + b.sz)) (by simp; omega), ← List.drop_drop, List.take_append_drop]

/-- A slice among the arguments. -/
theorem open_arg_slice {P : Program} {t : TypeId} {α : Type} {d : Kd α} {wf : α → Prop} {q : Nat} (o : Opens P t (Kd.slice q d) (WList wf)) {H : Type} {enc : TypeId × Value → H} {w : World} {base : Nat} {spare : Nat → Bool} {held : Bool}
    {A : Option Addr} {len cap : Nat} {D : DataW H} {ps : List MemPlace} (h : DataW.Trod enc P w base spare held t (.slice A len cap) D ps) :
    ∃ l : List α, len = l.length ∧ l.length ≤ cap ∧ d.C w A l.length l ∧ WList wf l := by
  obtain ⟨fuel, hf⟩ := h
  obtain ⟨l, ⟨A', c, he, hl, hC⟩, hw⟩ := o hf
  simp only [Value.cells, List.cons.injEq, Value.slice.injEq, and_true] at he
  obtain ⟨rfl, rfl, rfl⟩ := he
  exact ⟨l, rfl, hl, hC, hw⟩
end Go.Proofs.Ytlagoaoenaaglaa.Op
end

section
/- FnExactCounterBoard: the program and the reference agree for all arguments: the row over the pure statement. -/
namespace Go.Proofs.Ytlagoaoenaaglaa.fnExactCounterBoard
open Go.ChangeShapes Go.WideShapes Go.ChangeAt Go.RowKit
open Go.ChangeMaps (open_string shut_string)
open Go.Proofs.Ytlagoaoenaaglaa.Op
set_option linter.unusedVariables false
def Pure : Prop := ∀ (a0 : Int) (a1 : Int), WNum .i64 a0 → WNum .i64 a1 → ∃ k, P.laws_FnExactCounterBoard.f k a0 a1 = some true
theorem own : ownKnob Try.prog.godebug = none := by kernel_rfl
set_option maxRecDepth 100000 in
theorem lifted (pure : Pure) (os : Os) (started : os.Started) (H : Type) (enc : TypeId × Value → H) :
    ReturnsInHanded {} Try.checked os 7 .any (Rows.fnExactCounterBoardSpec.pre6 enc Try.prog Try.f7 Rows.fnExactCounterBoardRow.domain false) (Rows.fnExactCounterBoardSpec.post enc Try.prog Try.f7 false true false false) := by
  refine returnsInHanded_of_change_sized (C := Try.checked) own started (by kernel_rfl) Try.func7
    (ChangeSpec.witness6 (enc := enc) (C := Try.checked) false ⟨#[], #[.int .i64 0, .int .i64 0], []⟩ 8 (by kernel_rfl) (by kernel_rfl) (by kernel_rfl) (by kernel_rfl)) ?_
  intro W base args ds gs before hval0 hW hcnd hsz0 _
  have hsz : (DataW.weightsEach Try.prog (Try.f7.params.toList ++ Rows.fnExactCounterBoardSpec.plain.varTypes Try.prog) (ds ++ gs)).all (· ≤ reachBytes) = true := hsz0
  have hval : ∀ (j : Nat) t v, Try.f7.params[j]? = some t → args[j]? = some v → Value.okWide Try.prog W .any base t v := hval0
  have hW' := hW
  obtain ⟨p, q, hA0, hV, rfl, hfz, hnd⟩ := hW
  have hA : DataW.TrodAll enc Try.prog W 0 (fun _ => true) true Try.f7.params.toList args.toList ds p := hA0
  rw [Try.params7] at hA hval hsz
  obtain ⟨v0, vs0, d0, ds0, p0, q0, hargs, rfl, rfl, h0, r0⟩ := trodAll_cons hA
  obtain ⟨v1, vs1, d1, ds1, p1, q1, rfl, rfl, rfl, h1, r1⟩ := trodAll_cons r0
  obtain ⟨rfl, rfl, rfl⟩ := trodAll_nil r1
  obtain rfl : args = #[v0, v1] := by cases args; simp_all
  obtain ⟨rfl, rfl⟩ := trodVars_none hV
  obtain ⟨a0, rfl, rfl, rfl, w0⟩ := open_int Try.underlying3 (hval 0 3 v0 rfl rfl) h0
  obtain ⟨a1, rfl, rfl, rfl, w1⟩ := open_int Try.underlying3 (hval 1 3 v1 rfl rfl) h1
  clear hA0 hval0 hsz0 hsz
  obtain ⟨k, hk⟩ := pure a0 a1 w0 w1
  refine (P.laws_FnExactCounterBoard.calls k a0 a1 true W  hk).mono fun e W' ⟨he, bel⟩ => ?_
  subst he
  exact ⟨_, rfl, _, _, _, [], _, [], hW', trodAll_mk1 (shut_bool Try.underlying4 _), (trodAll_cons_mk (shut_int Try.underlying3 w0) (trodAll_cons_mk (shut_int Try.underlying3 w1) trodAll_mk0)), rfl, bel.frame _, fun h => by cases h⟩
theorem over (pure : Pure) : Rows.fnExactCounterBoardRow.holds Try.pinned (OpenSpec.ofChange Rows.fnExactCounterBoardSpec) :=
  OpenClaim.holds_of_wide 7 Try.f7 rfl rfl rfl rfl rfl rfl rfl ⟨rfl, rfl, rfl, rfl, rfl⟩ rfl rfl rfl rfl rfl (by kernel_rfl) Try.func7 (by kernel_rfl)
    (of_decide_eq_true (by kernel_rfl)) (by unfold Func.isWrapper; first | (rw [if_pos (by decide +kernel)]; kernel_rfl) | (rw [if_neg (by decide +kernel)]; exact ⟨rfl, rfl⟩))
    (fun os started H enc _ => lifted pure os started H enc)
end Go.Proofs.Ytlagoaoenaaglaa.fnExactCounterBoard
end

section
/- Small laws on rounds, wrapped sums and reading of lists, for the plain laws of this seat. -/
namespace Go.Proofs.Ytlagoaoenaaglaa.T
open Go.RowKit Go.Proofs.YtlagoaoenaaglaaW.PrintWords Go.Proofs.YtlagoaoenaaglaaW.PrintLast Go.Proofs.YtlagoaoenaaglaaW.PrintMore
set_option linter.unusedVariables false

theorem wrap_id {x : Int} (h1 : -9223372036854775808 ≤ x) (h2 : x ≤ 9223372036854775807) : wrap64 x = x := by
  unfold wrap64; omega
theorem wf_lo {n : Int} (h : (Lit.int .i64 n).wf = true) : -9223372036854775808 ≤ n ∧ n ≤ 9223372036854775807 := by
  simp [Lit.wf, IntKind.min, IntKind.max, IntKind.signed, IntKind.bits] at h
  omega

theorem ev_some {α : Type} (r : α) : Ev (fun _ => some r) r := Ev.now r
/-- Rounds that are not used. -/
theorem ev_const {α : Type} {g : Option α} {r : α} (h : g = some r) : Ev (fun _ => g) r := by
  subst h; exact Ev.now r
theorem ev_bind {α β : Type} {g : Nat → Option α} {f : Nat → α → Option β} {a : α} {r : β} (h : Ev g a) (k : Ev (fun n => f n a) r) : Ev (fun n => (g n).bind (f n)) r := Ev.bind h k
theorem ev_bindc {α β : Type} {g : Option α} {f : Nat → α → Option β} {a : α} {r : β} (h : g = some a) (k : Ev (fun n => f n a) r) : Ev (fun n => g.bind (f n)) r := by
  subst h; exact k
theorem ev_pos {α : Type} {c : Prop} [Decidable c] {g f : Nat → Option α} {r : α} (h : c) (k : Ev g r) : Ev (fun n => if c then g n else f n) r := by
  simp only [if_pos h]; exact k
theorem ev_neg {α : Type} {c : Prop} [Decidable c] {g f : Nat → Option α} {r : α} (h : ¬ c) (k : Ev f r) : Ev (fun n => if c then g n else f n) r := by
  simp only [if_neg h]; exact k
theorem ev_ite {α : Type} {c : Prop} [Decidable c] {g f : Nat → Option α} {a b : α} (h : c → Ev g a) (k : ¬ c → Ev f b) : Ev (fun n => if c then g n else f n) (if c then a else b) := by
  by_cases hc : c
  · simp only [if_pos hc]; exact h hc
  · simp only [if_neg hc]; exact k hc
theorem ev_uniq {α : Type} {g : Nat → Option α} {a b : α} (h : Ev g a) (k : Ev g b) : a = b := by
  obtain ⟨K, h⟩ := h; obtain ⟨L, k⟩ := k
  have h1 := h (K + L) (by omega); have h2 := k (K + L) (by omega)
  rw [h1] at h2; exact Option.some.inj h2

theorem toNat_len {α : Type} (pre : List α) : ((pre.length : Int)).toNat = pre.length := by simp
theorem getD_mid {α : Type} (pre : List α) (y : α) (suf : List α) (z : α) : (pre ++ y :: suf).getD ((pre.length : Int)).toNat z = y := by simp
theorem lt_mid {α : Type} (pre : List α) (y : α) (suf : List α) : (pre.length : Int) < ((pre ++ y :: suf).length : Int) := by simp; omega
theorem not_lt_end {α : Type} (pre : List α) : ¬ (pre.length : Int) < ((pre ++ []).length : Int) := by simp
theorem next_mid {α : Type} (pre : List α) (y : α) (suf : List α) (h : (pre ++ y :: suf).length ≤ maxLen) : wrap64 ((pre.length : Int) + 1) = ((pre ++ [y]).length : Int) := by
  simp only [List.length_append, List.length_cons, List.length_nil, maxLen] at h ⊢
  rw [wrap_id (by omega) (by omega)]; omega
theorem assoc_mid {α : Type} (pre : List α) (y : α) (suf : List α) : pre ++ y :: suf = (pre ++ [y]) ++ suf := by simp
theorem set_mid {α : Type} (pre : List α) (y y' : α) (suf : List α) : (pre ++ y :: suf).set ((pre.length : Int)).toNat y' = (pre ++ [y']) ++ suf := by
  simp
end Go.Proofs.Ytlagoaoenaaglaa.T
end

section
/- What the printed helpers on numbers and on lists of numbers come to. -/
namespace Go.Proofs.Ytlagoaoenaaglaa.A
open Go.RowKit Go.Proofs.YtlagoaoenaaglaaW.PrintWords Go.Proofs.YtlagoaoenaaglaaW.PrintLast Go.Proofs.YtlagoaoenaaglaaW.PrintMore Go.Proofs.Ytlagoaoenaaglaa.P Go.Proofs.Ytlagoaoenaaglaa.T
set_option linter.unusedVariables false
set_option linter.unusedSimpArgs false

theorem rd_mid (pre : List Int) (y : Int) (suf : List Int) : rd (pre ++ y :: suf) (pre.length : Int) = y := by simp [rd]
/-- m, m + 1, .. -/
def iota : Int → Nat → List Int
  | _, 0 => []
  | m, n + 1 => m :: iota (m + 1) n
theorem iota_length (n : Nat) : ∀ m, (iota m n).length = n := by
  induction n with
  | zero => intro m; rfl
  | succ n ih => intro m; simp [iota, ih]
theorem in_f (a lo hi : Int) : spec_l1In.f a lo hi = some (decide (lo ≤ a ∧ a ≤ hi)) := by
  unfold spec_l1In.f
  by_cases h : a ≥ lo
  · rw [if_pos h]; simp [show lo ≤ a from h]
  · rw [if_neg h]; simp; omega
end Go.Proofs.Ytlagoaoenaaglaa.A
end

section
/- What the printed functions on cells and boards come to: copies, comparison, marks, and the tests whether a board is valid. -/
namespace Go.Proofs.Ytlagoaoenaaglaa.A
open Go.RowKit Go.Proofs.YtlagoaoenaaglaaW.PrintWords Go.Proofs.YtlagoaoenaaglaaW.PrintLast Go.Proofs.YtlagoaoenaaglaaW.PrintMore Go.Proofs.Ytlagoaoenaaglaa.P Go.Proofs.Ytlagoaoenaaglaa.T
set_option linter.unusedVariables false
set_option linter.unusedSimpArgs false

theorem rdc_mid (pre : List S59) (y : S59) (suf : List S59) : rd_T59 (pre ++ y :: suf) (pre.length : Int) = y := by simp [rd_T59]
/-- The copy of one cell. -/
def cpC (x : S73) : S59 := ⟨x.f0, x.f1⟩
theorem toCells_loop (l : List S73) : ∀ (suf pre : List S73) (qre qsuf : List S59), l = pre ++ suf → l.length ≤ maxLen → qre.length = pre.length → qsuf.length = suf.length →
    Ev (fun k => laws_toCellS.l0 k l (qre ++ qsuf) (pre.length : Int)) (qre ++ suf.map cpC) := by
  intro suf
  induction suf with
  | nil =>
    intro pre qre qsuf hl hm h1 h2
    subst hl
    obtain rfl : qsuf = [] := List.length_eq_zero_iff.1 h2
    refine Ev.step (fun k => laws_toCellS.l0.eq_2 ..) ?_
    refine ev_neg (not_lt_end _) (ev_const (by simp))
  | cons y suf ih =>
    intro pre qre qsuf hl hm h1 h2
    subst hl
    obtain ⟨z, qsuf, rfl⟩ : ∃ z t, qsuf = z :: t := by cases qsuf with | nil => simp at h2 | cons z t => exact ⟨z, t, rfl⟩
    refine Ev.step (fun k => laws_toCellS.l0.eq_2 ..) ?_
    refine ev_pos (lt_mid _ _ _) (ev_pos (by omega) ?_)
    simp only [laws_toCell.f, Option.bind_some, rd_T73, getD_mid]
    refine ev_pos (by rw [← h1]; exact lt_mid _ _ _) ?_
    rw [next_mid _ _ _ hm, ← h1, set_mid]
    have := ih (pre ++ [y]) (qre ++ [cpC y]) qsuf (assoc_mid _ _ _) hm (by simp [h1]) (by simpa using h2)
    simpa [cpC] using this
theorem toCells (l : List S73) (h : l.length ≤ 1048576) : Ev (fun k => laws_toCellS.f k l) (l.map cpC) := by
  have := toCells_loop l l [] [] (List.replicate l.length z59) rfl (by simp only [maxLen]; omega) rfl (by simp)
  unfold laws_toCellS.f
  refine ev_pos (by omega) (ev_pos (by simp; omega) ?_)
  simpa using this
theorem toBo (a b : Int) (l : List S73) (h : l.length ≤ 1048576) : Ev (fun k => laws_toBoard.f k a b l) (a, b, l.map cpC) := by
  unfold laws_toBoard.f
  exact ev_bind (toCells l h) (ev_const rfl)
theorem szBo (r c : Int) (l : List S73) (a : Int) (ha : 0 ≤ a ∧ a ≤ 1048576) (h : l.length ≤ maxLen) : laws_szBoard.f r c l a = some (if a - (l.length : Int) < 0 then -1 else a - (l.length : Int)) := by
  unfold laws_szBoard.f laws_szCellS.f
  simp only [maxLen] at h
  rw [wrap_id (x := a - (l.length : Int)) (by omega) (by omega)]
  by_cases h1 : a - (l.length : Int) < 0
  · rw [if_pos h1, Option.bind_some, if_pos (by omega), if_pos h1]
  · rw [if_neg h1, Option.bind_some, if_neg h1, if_neg h1]
theorem eqCells_loop (l : List S59) : ∀ (suf pre : List S59), l = pre ++ suf → l.length ≤ maxLen → Ev (fun k => laws_eqCellS.l0 k l l (pre.length : Int)) true := by
  intro suf
  induction suf with
  | nil =>
    intro pre hl hm
    subst hl
    refine Ev.step (fun k => laws_eqCellS.l0.eq_2 ..) ?_
    refine ev_neg (not_lt_end _) (ev_const rfl)
  | cons y suf ih =>
    intro pre hl hm
    subst hl
    refine Ev.step (fun k => laws_eqCellS.l0.eq_2 ..) ?_
    refine ev_pos (lt_mid _ _ _) (ev_pos (by omega) (ev_pos (lt_mid _ _ _) ?_))
    simp only [laws_eqCell.f, if_true, Option.bind_some]
    rw [next_mid _ _ _ hm]
    exact ih (pre ++ [y]) (assoc_mid _ _ _) hm
theorem eqCells (l : List S59) (h : l.length ≤ maxLen) : Ev (fun k => laws_eqCellS.f k l l) true := by
  unfold laws_eqCellS.f
  exact ev_pos rfl (eqCells_loop l l [] rfl h)
theorem eqBo (a b : Int) (l : List S59) (h : l.length ≤ maxLen) : Ev (fun k => laws_eqBoard.f k a b l a b l) true := by
  unfold laws_eqBoard.f
  exact ev_pos rfl (ev_pos rfl (ev_bind (eqCells l h) (ev_const rfl)))
def iotaC : Int → Nat → List S59
  | _, 0 => []
  | m, n + 1 => ⟨m, m + 1⟩ :: iotaC (m + 2) n
theorem iotaC_length (n : Nat) : ∀ m, (iotaC m n).length = n := by
  induction n with
  | zero => intro m; rfl
  | succ n ih => intro m; simp [iotaC, ih]
theorem markCells_loop : ∀ (suf pre : List S59) (m : Int), (pre ++ suf).length ≤ maxLen → 0 ≤ m → m + 2 * (suf.length : Int) ≤ 9223372036854775807 →
    Ev (fun k => laws_markCellS.l0 k (pre ++ suf) m (pre.length : Int)) (m + 2 * (suf.length : Int), pre ++ iotaC m suf.length) := by
  intro suf
  induction suf with
  | nil =>
    intro pre m hm h0 h1
    refine Ev.step (fun k => laws_markCellS.l0.eq_2 ..) ?_
    exact ev_neg (not_lt_end _) (ev_const (by simp [iotaC]))
  | cons y suf ih =>
    intro pre m hm h0 h1
    simp only [List.length_cons, Int.natCast_add, Int.natCast_one] at h1
    refine Ev.step (fun k => laws_markCellS.l0.eq_2 ..) ?_
    refine ev_pos (lt_mid _ _ _) (ev_pos (by omega) ?_)
    simp only [Option.bind_some]
    rw [next_mid _ _ _ hm, set_mid, List.append_assoc, List.singleton_append]
    simp only [rdc_mid]
    rw [set_mid, wrap_id (x := m + 1) (by omega) (by omega), wrap_id (x := m + 1 + 1) (by omega) (by omega)]
    have := ih (pre ++ [⟨m, m + 1⟩]) (m + 2) (by simpa using hm) (by omega) (by omega)
    rw [show ((pre ++ [(⟨m, m + 1⟩ : S59)]).length : Int) = ((pre ++ [y]).length : Int) by simp] at this
    rw [show (m + 2 * ((y :: suf).length : Int), pre ++ iotaC m (y :: suf).length) = (m + 2 + 2 * (suf.length : Int), pre ++ [(⟨m, m + 1⟩ : S59)] ++ iotaC (m + 2) suf.length) by simp [iotaC]; omega, show m + 1 + 1 = m + 2 by omega]
    exact this
theorem markBo (a b : Int) (l : List S59) (m : Int) (h : l.length ≤ maxLen) (h0 : 0 ≤ m) (h1 : m + 2 * (l.length : Int) ≤ 9223372036854775807) : Ev (fun k => laws_markBoard.f k a b l m) (m + 2 * (l.length : Int), iotaC m l.length) := by
  unfold laws_markBoard.f laws_markCellS.f
  exact ev_bind (markCells_loop l [] m h h0 h1) (ev_const rfl)
theorem heldCells_loop : ∀ (n : Nat) (pre : List S59) (m : Int), (pre ++ iotaC m n).length ≤ maxLen → 0 ≤ m → m + 2 * (n : Int) ≤ 9223372036854775807 →
    Ev (fun k => laws_heldCellS.l0 k (pre ++ iotaC m n) m (pre.length : Int)) (m + 2 * (n : Int)) := by
  intro n
  induction n with
  | zero =>
    intro pre m hm h0 h1
    refine Ev.step (fun k => laws_heldCellS.l0.eq_2 ..) ?_
    exact ev_neg (not_lt_end _) (ev_const (by simp))
  | succ n ih =>
    intro pre m hm h0 h1
    refine Ev.step (fun k => laws_heldCellS.l0.eq_2 ..) ?_
    simp only [iotaC] at hm ⊢
    refine ev_pos (lt_mid _ _ _) (ev_pos (by omega) ?_)
    have w1 : wrap64 (m + 1) = m + 1 := wrap_id (by omega) (by omega)
    have w2 : wrap64 (m + 1 + 1) = m + 2 := (wrap_id (by omega) (by omega)).trans (by omega)
    simp only [rdc_mid, w1, w2, if_true]
    rw [next_mid _ _ _ hm, assoc_mid]
    have := ih (pre ++ [⟨m, m + 1⟩]) (m + 2) (by simpa using hm) (by omega) (by omega)
    rw [show m + 2 * ((n + 1 : Nat) : Int) = m + 2 + 2 * (n : Int) by omega]
    exact this
theorem heldBo (a b : Int) (n : Nat) (m : Int) (h : n ≤ maxLen) (h0 : 0 ≤ m) (h1 : m + 2 * (n : Int) ≤ 9223372036854775807) : Ev (fun k => laws_heldBoard.f k a b (iotaC m n) m) (m + 2 * (n : Int)) := by
  unfold laws_heldBoard.f laws_heldCellS.f
  exact ev_bind (heldCells_loop n [] m (by simpa [iotaC_length] using h) h0 h1) (ev_neg (by omega) (ev_const rfl))
def CellOk (a b : Int) : Prop := (0 ≤ a ∧ a ≤ 7) ∧ (b = 0 ∨ b = 1 ∧ (a = 3 ∨ a = 6))
instance (a b : Int) : Decidable (CellOk a b) := by unfold CellOk; infer_instance
def BoOk (r c : Int) (l : List S59) : Prop := (1 ≤ r ∧ r ≤ 10) ∧ (1 ≤ c ∧ c ≤ 9) ∧ (l.length : Int) = r * c ∧ ∀ x ∈ l, CellOk x.f0 x.f1
instance (r c : Int) (l : List S59) : Decidable (BoOk r c l) := by unfold BoOk; infer_instance
theorem mul_small {r c : Int} (h1 : 1 ≤ r ∧ r ≤ 10) (h2 : 1 ≤ c ∧ c ≤ 9) : 1 ≤ r * c ∧ r * c ≤ 90 := by
  have h : r = 1 ∨ r = 2 ∨ r = 3 ∨ r = 4 ∨ r = 5 ∨ r = 6 ∨ r = 7 ∨ r = 8 ∨ r = 9 ∨ r = 10 := by omega
  rcases h with rfl | rfl | rfl | rfl | rfl | rfl | rfl | rfl | rfl | rfl <;> omega
theorem BoOk.len {r c : Int} {l : List S59} (h : BoOk r c l) : l.length ≤ 90 := by
  have := mul_small h.1 h.2.1
  have := h.2.2.1
  omega
theorem paTurning (a b : Int) : spec_paTurning.f a b = some (decide (a = 3 ∨ a = 6)) := by
  unfold spec_paTurning.f
  by_cases h : a = 3
  · rw [if_pos h]; simp [h]
  · rw [if_neg h]; simp [h, Bool.beq_eq_decide_eq]
theorem paGood (a b : Int) : spec_paGood.f a b = some (decide (CellOk a b)) := by
  unfold spec_paGood.f
  rw [in_f, Option.bind_some, paTurning]
  by_cases h : 0 ≤ a ∧ a ≤ 7
  · rw [if_pos (by simpa using h)]
    by_cases h1 : b = 0
    · rw [if_pos h1]; rw [decide_eq_true (show CellOk a b from ⟨h, .inl h1⟩)]
    · rw [if_neg h1]
      by_cases h2 : b = 1
      · rw [if_pos h2, Option.bind_some, Option.some.injEq, decide_eq_decide]
        exact ⟨fun h3 => ⟨h, .inr ⟨h2, h3⟩⟩, fun h3 => (h3.2.resolve_left h1).2⟩
      · rw [if_neg h2, decide_eq_false (fun h3 : CellOk a b => h2 (h3.2.resolve_left h1).1)]
  · rw [if_neg (by simpa using h), decide_eq_false (fun h3 : CellOk a b => h h3.1)]
theorem isCell (a b : Int) : impl_IsCell.f a b = some (decide (CellOk a b)) := by
  unfold impl_IsCell.f
  by_cases h : 0 ≤ a ∧ a ≤ 7
  · rw [if_neg (by omega), if_neg (by omega)]
    by_cases h1 : b < 0
    · rw [if_pos h1, decide_eq_false (fun h3 : CellOk a b => by have := h3.2; omega)]
    rw [if_neg h1]
    by_cases h2 : b > 1
    · rw [if_pos h2, decide_eq_false (fun h3 : CellOk a b => by have := h3.2; omega)]
    rw [if_neg h2]
    by_cases h3 : b = 0
    · rw [if_pos h3, decide_eq_true (show CellOk a b from ⟨h, .inl h3⟩)]
    rw [if_neg h3]
    have h4 : b = 1 := by omega
    by_cases h5 : a = 3
    · rw [if_pos h5, decide_eq_true (show CellOk a b from ⟨h, .inr ⟨h4, .inl h5⟩⟩)]
    · rw [if_neg h5, Bool.beq_eq_decide_eq, Option.some.injEq, decide_eq_decide]
      exact ⟨fun h6 => ⟨h, .inr ⟨h4, .inr h6⟩⟩, fun h6 => (h6.2.resolve_left h3).2.resolve_left h5⟩
  · rw [decide_eq_false (fun h3 : CellOk a b => h h3.1)]
    by_cases h1 : a < 0
    · rw [if_pos h1]
    · rw [if_neg h1, if_pos (by omega)]
theorem boGood_loop (l : List S59) (hm : l.length ≤ maxLen) : ∀ (suf pre : List S59), l = pre ++ suf →
    Ev (fun k => spec_boGood.l0 k l (l.length : Int) (pre.length : Int)) (decide (∀ x ∈ suf, CellOk x.f0 x.f1)) := by
  intro suf
  induction suf with
  | nil =>
    intro pre hl
    subst hl
    exact Ev.step (fun k => spec_boGood.l0.eq_2 ..) (ev_neg (not_lt_end _) (ev_const (by simp)))
  | cons y suf ih =>
    intro pre hl
    subst hl
    refine Ev.step (fun k => spec_boGood.l0.eq_2 ..) (ev_pos (lt_mid _ _ _) (ev_pos (by omega) (ev_pos (lt_mid _ _ _) ?_)))
    simp only [rdc_mid, paGood, Option.bind_some, decide_eq_true_eq]
    by_cases h : CellOk y.f0 y.f1
    · refine ev_pos h ?_
      rw [next_mid _ _ _ hm]
      rw [show decide (∀ x ∈ y :: suf, CellOk x.f0 x.f1) = decide (∀ x ∈ suf, CellOk x.f0 x.f1) by rw [decide_eq_decide]; simp [h]]
      exact ih (pre ++ [y]) (assoc_mid _ _ _)
    · refine ev_neg h (ev_const ?_)
      rw [show decide (∀ x ∈ y :: suf, CellOk x.f0 x.f1) = false from decide_eq_false (fun hh => h (hh y List.mem_cons_self))]
theorem boGood (r c : Int) (l : List S59) (hm : l.length ≤ maxLen) : Ev (fun k => spec_boGood.f k r c l) (decide (BoOk r c l)) := by
  unfold spec_boGood.f
  have no : ∀ b, b = true → ¬ BoOk r c l → Ev (fun k => spec_boGood.j0 k b r c l) (decide (BoOk r c l)) := by
    intro b hb h
    rw [decide_eq_false h]
    exact Ev.step (fun k => spec_boGood.j0.eq_2 ..) (ev_pos hb (ev_const rfl))
  simp only [in_f, Option.bind_some, decide_eq_true_eq]
  by_cases h1 : 1 ≤ r ∧ r ≤ 10
  · refine ev_pos h1 ?_
    by_cases h2 : 1 ≤ c ∧ c ≤ 9
    · have h3 := mul_small h1 h2
      refine ev_pos h2 ?_
      rw [wrap_id (by omega) (by omega)]
      by_cases h4 : (l.length : Int) = r * c
      · rw [show ((l.length : Int) != r * c) = false by simpa using h4]
        refine Ev.step (fun k => spec_boGood.j0.eq_2 ..) (ev_neg (by simp) ?_)
        rw [show decide (BoOk r c l) = decide (∀ x ∈ l, CellOk x.f0 x.f1) from decide_eq_decide.2 ⟨fun h => h.2.2.2, fun h => ⟨h1, h2, h4, h⟩⟩]
        exact boGood_loop l hm l [] rfl
      · exact no _ (by simpa using h4) (fun h => h4 h.2.2.1)
    · exact ev_neg h2 (no _ rfl (fun h => h2 h.2.1))
  · exact ev_neg h1 (no _ rfl (fun h => h1 h.1))
theorem validCells_loop (l : List S59) (hm : l.length ≤ maxLen) : ∀ (suf pre : List S59), l = pre ++ suf →
    Ev (fun k => impl_validCells.l0 k l (l.length : Int) (pre.length : Int)) (decide (∀ x ∈ suf, CellOk x.f0 x.f1)) := by
  intro suf
  induction suf with
  | nil =>
    intro pre hl
    subst hl
    exact Ev.step (fun k => impl_validCells.l0.eq_2 ..) (ev_neg (not_lt_end _) (ev_const (by simp)))
  | cons y suf ih =>
    intro pre hl
    subst hl
    refine Ev.step (fun k => impl_validCells.l0.eq_2 ..) (ev_pos (lt_mid _ _ _) (ev_pos (by omega) (ev_pos (lt_mid _ _ _) ?_)))
    simp only [rdc_mid, isCell, Option.bind_some, decide_eq_true_eq]
    by_cases h : CellOk y.f0 y.f1
    · refine ev_pos h ?_
      rw [next_mid _ _ _ hm]
      rw [show decide (∀ x ∈ y :: suf, CellOk x.f0 x.f1) = decide (∀ x ∈ suf, CellOk x.f0 x.f1) by rw [decide_eq_decide]; simp [h]]
      exact ih (pre ++ [y]) (assoc_mid _ _ _)
    · refine ev_neg h (ev_const ?_)
      rw [show decide (∀ x ∈ y :: suf, CellOk x.f0 x.f1) = false from decide_eq_false (fun hh => h (hh y List.mem_cons_self))]
theorem isBoard (r c : Int) (l : List S59) (hm : l.length ≤ maxLen) : Ev (fun k => impl_IsBoard.f k r c l) (decide (BoOk r c l)) := by
  unfold impl_IsBoard.f
  have no : ¬ BoOk r c l → Ev (fun _ : Nat => some false) (decide (BoOk r c l)) := by
    intro h; rw [decide_eq_false h]; exact ev_const rfl
  by_cases h1 : 1 ≤ r
  · refine ev_pos h1 ?_
    by_cases h2 : r ≤ 10
    · refine ev_pos h2 ?_
      by_cases h3 : 1 ≤ c
      · refine ev_pos h3 ?_
        by_cases h4 : c ≤ 9
        · refine ev_pos h4 ?_
          have h5 := mul_small ⟨h1, h2⟩ ⟨h3, h4⟩
          rw [wrap_id (by omega) (by omega)]
          by_cases h6 : (l.length : Int) = r * c
          · refine ev_pos h6 ?_
            rw [show decide (BoOk r c l) = decide (∀ x ∈ l, CellOk x.f0 x.f1) from decide_eq_decide.2 ⟨fun h => h.2.2.2, fun h => ⟨⟨h1, h2⟩, ⟨h3, h4⟩, h6, h⟩⟩]
            unfold impl_validCells.f
            exact ev_bind (ev_neg (by omega) (validCells_loop l hm l [] rfl)) (ev_const rfl)
          · exact ev_neg h6 (no (fun h => h6 h.2.2.1))
        · exact ev_neg h4 (no (fun h => h4 h.2.1.2))
      · exact ev_neg h3 (no (fun h => h3 h.2.1.1))
    · exact ev_neg h2 (no (fun h => h2 h.1.2))
  · exact ev_neg h1 (no (fun h => h1 h.1.1))
def kindCount (j : Int) (l : List S59) : Int := ((l.filter fun x => x.f0 = j).length : Int)
theorem kindCount_cons (j : Int) (y : S59) (l : List S59) : kindCount j (y :: l) = (if y.f0 = j then 1 else 0) + kindCount j l := by
  unfold kindCount
  by_cases h : y.f0 = j
  · rw [List.filter_cons_of_pos (by simpa using h), if_pos h]; simp; omega
  · rw [List.filter_cons_of_neg (by simpa using h), if_neg h]; omega
theorem kindCount_rest (l : List S59) : (l.length : Int) = kindCount 0 l + ((l.filter fun x => x.f0 ≠ 0).length : Int) := by
  induction l with
  | nil => simp [kindCount]
  | cons y l ih =>
    rw [kindCount_cons]
    by_cases h : y.f0 = 0
    · rw [if_pos h, List.filter_cons_of_neg (by simpa using h)]; simp only [List.length_cons]; omega
    · rw [if_neg h, List.filter_cons_of_pos (by simpa using h)]; simp only [List.length_cons]; omega
theorem boParts_loop (l : List S59) (hm : l.length ≤ maxLen) : ∀ (suf pre : List S59) (cnt : List Int) (B : Int), l = pre ++ suf → (∀ x ∈ suf, 0 ≤ x.f0 ∧ x.f0 ≤ 7) → cnt.length = 8 → (∀ j : Nat, j < 8 → 0 ≤ cnt.getD j 0 ∧ cnt.getD j 0 ≤ B) → B + (suf.length : Int) ≤ 1000 →
    ∃ r, Ev (fun k => spec_boParts.l0 k cnt l (l.length : Int) (pre.length : Int)) r ∧ r.length = 8 ∧ ∀ j : Nat, j < 8 → r.getD j 0 = cnt.getD j 0 + kindCount j suf := by
  intro suf
  induction suf with
  | nil =>
    intro pre cnt B hl hx hc hb hB
    subst hl
    exact ⟨cnt, Ev.step (fun k => spec_boParts.l0.eq_2 ..) (ev_neg (not_lt_end _) (ev_const rfl)), hc, fun j hj => by simp [kindCount]⟩
  | cons y suf ih =>
    intro pre cnt B hl hx hc hb hB
    subst hl
    obtain ⟨hy0, hy7⟩ := hx y List.mem_cons_self
    obtain ⟨n, hn⟩ : ∃ n : Nat, y.f0 = n := ⟨y.f0.toNat, by omega⟩
    have hn8 : n < 8 := by omega
    have hbn := hb n hn8
    simp only [List.length_cons, Int.natCast_add, Int.natCast_one] at hB
    obtain ⟨r, hr, hr8, hrj⟩ := ih (pre ++ [y]) (cnt.set n (cnt.getD n 0 + 1)) (B + 1) (assoc_mid _ _ _) (fun x h => hx x (List.mem_cons_of_mem _ h)) (by simpa using hc) (by
      intro j hj
      have := hb j hj
      by_cases e : n = j
      · subst e
        rw [List.getD_eq_getElem?_getD, List.getElem?_set_self (by omega)]
        simp only [Option.getD_some]
        omega
      · rw [List.getD_eq_getElem?_getD, List.getElem?_set_ne e, ← List.getD_eq_getElem?_getD]
        omega) (by omega)
    refine ⟨r, ?_, hr8, ?_⟩
    · refine Ev.step (fun k => spec_boParts.l0.eq_2 ..) (ev_pos (lt_mid _ _ _) (ev_pos (by omega) (ev_pos (lt_mid _ _ _) ?_)))
      simp only [rdc_mid, hn]
      refine ev_pos (by omega) (ev_pos (by omega) ?_)
      rw [next_mid _ _ _ hm]
      rw [show rd cnt (n : Int) = cnt.getD n 0 by simp [rd], wrap_id (by omega) (by omega), Int.toNat_natCast]
      exact hr
    · intro j hj
      rw [hrj j hj, kindCount_cons]
      by_cases e : n = j
      · subst e
        rw [List.getD_eq_getElem?_getD, List.getElem?_set_self (by omega), if_pos hn]
        simp only [Option.getD_some]
        omega
      · rw [List.getD_eq_getElem?_getD, List.getElem?_set_ne e, ← List.getD_eq_getElem?_getD, if_neg (by omega)]
        omega
theorem rep0 (n j : Nat) (h : j < n) : (List.replicate n (0 : Int)).getD j 0 = 0 := by
  rw [List.getD_eq_getElem?_getD, List.getElem?_replicate, if_pos h]; rfl
theorem boParts (r c : Int) (l : List S59) (h : BoOk r c l) : ∃ ps, Ev (fun k => spec_boParts.f k r c l) ps ∧ ps.length = 8 ∧ ∀ j : Nat, j < 8 → ps.getD j 0 = kindCount j l := by
  have h90 := h.len
  obtain ⟨ps, h1, h2, h3⟩ := boParts_loop l (by simp only [maxLen]; omega) l [] (List.replicate 8 0) 0 rfl (fun x hx => (h.2.2.2 x hx).1) (by simp) (by
    intro j hj
    rw [rep0 8 j hj]; omega) (by omega)
  refine ⟨ps, ?_, h2, ?_⟩
  · unfold spec_boParts.f
    exact ev_pos (by omega) h1
  · intro j hj
    rw [h3 j hj, rep0 8 j hj, Int.zero_add]
theorem partsOf_loop (l : List S59) (hm : l.length ≤ 1000) : ∀ (suf pre : List S59) (n : Nat), l = pre ++ suf → n ≤ pre.length →
    Ev (fun k => impl_partsOf.l0 k n l (l.length : Int) (pre.length : Int)) ((n : Int) + ((suf.filter fun x => x.f0 ≠ 0).length : Int)) := by
  have hmx : l.length ≤ maxLen := by simp only [maxLen]; omega
  intro suf
  induction suf with
  | nil =>
    intro pre n hl hn
    subst hl
    exact Ev.step (fun k => impl_partsOf.l0.eq_2 ..) (ev_neg (not_lt_end _) (ev_const (by simp)))
  | cons y suf ih =>
    intro pre n hl hn
    subst hl
    refine Ev.step (fun k => impl_partsOf.l0.eq_2 ..) (ev_pos (lt_mid _ _ _) (ev_pos (by omega) (ev_pos (lt_mid _ _ _) ?_)))
    simp only [rdc_mid]
    rw [next_mid _ _ _ hmx]
    simp only [List.length_append, List.length_cons] at hm
    by_cases h : y.f0 = 0
    · refine ev_pos h ?_
      have := ih (pre ++ [y]) n (assoc_mid _ _ _) (by simp; omega)
      rw [List.filter_cons_of_neg (by simpa using h)]
      exact this
    · refine ev_neg h ?_
      have := ih (pre ++ [y]) (n + 1) (assoc_mid _ _ _) (by simp; omega)
      rw [List.filter_cons_of_pos (by simpa using h), wrap_id (x := (n : Int) + 1) (by omega) (by omega)]
      rw [show ((n : Int) + ((y :: suf.filter fun x => x.f0 ≠ 0).length : Int)) = ((n + 1 : Nat) : Int) + ((suf.filter fun x => x.f0 ≠ 0).length : Int) by simp; omega]
      exact this
theorem partsOf (r c : Int) (l : List S59) (hm : l.length ≤ 1000) : Ev (fun k => impl_partsOf.f k r c l) ((l.filter fun x => x.f0 ≠ 0).length : Int) := by
  unfold impl_partsOf.f
  have := partsOf_loop l hm l [] 0 rfl (Nat.zero_le _)
  simpa using this
end Go.Proofs.Ytlagoaoenaaglaa.A
end

section
/- What the printed functions on counters made of boards come to. -/
namespace Go.Proofs.Ytlagoaoenaaglaa.A
open Go.RowKit Go.Proofs.YtlagoaoenaaglaaW.PrintWords Go.Proofs.YtlagoaoenaaglaaW.PrintLast Go.Proofs.YtlagoaoenaaglaaW.PrintMore Go.Proofs.Ytlagoaoenaaglaa.P Go.Proofs.Ytlagoaoenaaglaa.T
set_option linter.unusedVariables false
set_option linter.unusedSimpArgs false

theorem five {n : Int} (h : 1 ≤ n ∧ n ≤ 5) : n = 1 ∨ n = 2 ∨ n = 3 ∨ n = 4 ∨ n = 5 := by omega
theorem u64_five (n : Int) (h : 1 ≤ n ∧ n ≤ 5) : IntKind.u64.wrap n = n := by
  rcases five h with rfl | rfl | rfl | rfl | rfl <;> decide
theorem shl_five (n : Int) (h : 1 ≤ n ∧ n ≤ 5) : 2 ≤ shl .i64 1 n ∧ shl .i64 1 n ≤ 32 := by
  rcases five h with rfl | rfl | rfl | rfl | rfl <;> decide
def AskB (n v : Int) : Prop := (1 ≤ n ∧ n ≤ 5) ∧ 0 ≤ v ∧ v < shl .i64 1 n
instance (n v : Int) : Decidable (AskB n v) := by unfold AskB; infer_instance
theorem bcBits (n : Int) : spec_bcBits.f n = some (decide (1 ≤ n ∧ n ≤ 5)) := by
  unfold spec_bcBits.f
  rw [in_f, Option.bind_some]
theorem bcAsked (n v : Int) : spec_bcAsked.f n v = some (decide (AskB n v)) := by
  unfold spec_bcAsked.f
  rw [bcBits, Option.bind_some]
  by_cases h : 1 ≤ n ∧ n ≤ 5
  · have h2 := shl_five n h
    have h3 : wrap64 (shl .i64 1 n - 1) = shl .i64 1 n - 1 := wrap_id (by omega) (by omega)
    rw [u64_five n h, if_pos (by simpa using h), if_pos (by omega), in_f, h3]
    simp only [Option.bind_some, Option.some.injEq, decide_eq_decide]
    unfold AskB
    omega
  · rw [if_neg (by simpa using h), decide_eq_false (fun h2 : AskB n v => h h2.1)]
theorem counterBoard_loop (n : Nat) (v : Int) (hn : 1 ≤ n ∧ n ≤ 5) : ∀ (d m : Nat), m + d = n → Ev (fun k => impl_counterBoard.l0 k n v m (2 * n) 3 (bcStage v n m)) (2 * (n : Int), 3, bcCells v n) := by
  intro d
  induction d with
  | zero =>
    intro m h
    obtain rfl : m = n := by omega
    refine Ev.step (fun k => impl_counterBoard.l0.eq_2 ..) (ev_neg (by omega) (ev_const ?_))
    simp [bcStage]
  | succ d ih =>
    intro m h
    have e6 : wrap64 (6 * (m : Int)) = 6 * m := wrap_id (by omega) (by omega)
    have e1 : wrap64 (6 * (m : Int) + 1) = 6 * m + 1 := wrap_id (by omega) (by omega)
    have e5 : wrap64 (6 * (m : Int) + 5) = 6 * m + 5 := wrap_id (by omega) (by omega)
    have hl := bcStage_length v n m (by omega)
    refine Ev.step (fun k => impl_counterBoard.l0.eq_2 ..) (ev_pos (by omega) (ev_pos (by omega) ?_))
    simp only [e6, e1, e5]
    refine ev_pos (by omega) (ev_pos (by omega) (ev_pos (by omega) (ev_pos (by omega) ?_)))
    rw [wrap_id (x := (m : Int) + 1) (by omega) (by omega), show (6 * (m : Int) + 1).toNat = 6 * m + 1 by omega, show (6 * (m : Int) + 5).toNat = 6 * m + 5 by omega]
    have := bcStage_next v n m (by omega)
    unfold bcBit at this
    rw [this]
    exact ih (m + 1) (by omega)
theorem counterBoard (n v : Int) (hn : 1 ≤ n ∧ n ≤ 5) : Ev (fun k => impl_counterBoard.f k n v) (2 * n, 3, bcCells v n.toNat) := by
  obtain ⟨m, rfl⟩ := Int.eq_ofNat_of_zero_le (show 0 ≤ n by omega)
  unfold impl_counterBoard.f
  rw [wrap_id (x := 6 * (m : Int)) (by omega) (by omega), wrap_id (x := 2 * (m : Int)) (by omega) (by omega)]
  refine ev_pos (by omega) (ev_pos (by omega) ?_)
  have := counterBoard_loop m v (by omega) m 0 (by omega)
  rw [show (6 * (m : Int)).toNat = 6 * m by omega, Int.toNat_natCast]
  simpa [bcStage, bcCells] using this
theorem bcBoard (n v : Int) (hn : 1 ≤ n ∧ n ≤ 5) (k : Nat) : spec_bcBoard.f k n v = some (2 * n, 3, bcCells v n.toNat) := by
  unfold spec_bcBoard.f; rw [if_pos hn]
def counterB (n v : Int) : Int × Int × List S59 × Bool := if AskB n v then (2 * n, 3, bcCells v n.toNat, true) else (0, 0, [], false)
theorem counterB_len (n v : Int) : (counterB n v).2.2.1.length ≤ 30 := by
  unfold counterB
  split
  · rename_i h
    have := h.1
    simp only [bcCells_length]; omega
  · simp
theorem specCounterBoard (n v : Int) : Ev (fun k => spec_CounterBoard.f k n v) (counterB n v) := by
  unfold spec_CounterBoard.f counterB
  rw [bcAsked]
  simp only [Option.bind_some, decide_eq_true_eq]
  by_cases h : AskB n v
  · rw [if_pos h]
    refine ev_pos h ?_
    simp only [bcBoard n v h.1, Option.bind_some]
    exact ev_const rfl
  · rw [if_neg h]
    exact ev_neg h (ev_const rfl)
theorem implCounterBoard (n v : Int) : Ev (fun k => impl_CounterBoard.f k n v) (counterB n v) := by
  unfold impl_CounterBoard.f counterB
  by_cases h : AskB n v
  · rw [if_pos h]
    obtain ⟨h1, h2, h3⟩ := h
    exact ev_neg (by omega) (ev_neg (by omega) (ev_neg (by omega) (ev_pos (by omega) (ev_neg (by omega) (ev_bind (counterBoard n v h1) (ev_const rfl))))))
  · rw [if_neg h]
    by_cases h1 : n < 1
    · exact ev_pos h1 (ev_const rfl)
    refine ev_neg h1 ?_
    by_cases h2 : n > 5
    · exact ev_pos h2 (ev_const rfl)
    refine ev_neg h2 ?_
    by_cases h3 : v < 0
    · exact ev_pos h3 (ev_const rfl)
    refine ev_neg h3 (ev_pos (by omega) (ev_pos ?_ (ev_const rfl)))
    unfold AskB at h
    omega
end Go.Proofs.Ytlagoaoenaaglaa.A
end

section
/- CounterBoard: the program returns what the reference returns, for all int64 arguments. -/
namespace Go.Proofs.Ytlagoaoenaaglaa.A
open Go.RowKit Go.Proofs.YtlagoaoenaaglaaW.PrintWords Go.Proofs.YtlagoaoenaaglaaW.PrintLast Go.Proofs.YtlagoaoenaaglaaW.PrintMore Go.Proofs.Ytlagoaoenaaglaa.P Go.Proofs.Ytlagoaoenaaglaa.T Go.Proofs.Ytlagoaoenaaglaa.Op
set_option linter.unusedVariables false

theorem lawCounterBoard : fnExactCounterBoard.Pure := by
  intro n v hn hv
  refine Ev.rounds ?_
  unfold laws_FnExactCounterBoard.f
  have hl := counterB_len n v
  have hm : (counterB n v).2.2.1.length ≤ maxLen := by simp only [maxLen]; omega
  have bi := implCounterBoard n v
  refine ev_bind (specCounterBoard n v) (ev_bind bi (ev_bind (eqBo _ _ _ hm) (ev_pos rfl ?_)))
  refine Ev.step (fun k => laws_FnExactCounterBoard.j0.eq_2 ..) (ev_neg (by simp) ?_)
  refine ev_bind (markBo _ _ _ 1 hm (by omega) (by omega)) (ev_bind (heldBo _ _ _ 1 hm (by omega) (by omega)) (ev_neg (by simp; omega) (ev_pos rfl (ev_bind bi (ev_bind (eqBo _ _ _ hm) (ev_pos rfl ?_))))))
  refine Ev.step (fun k => laws_FnExactCounterBoard.j1.eq_2 ..) (ev_neg (by simp) ?_)
  exact ev_bind (heldBo _ _ _ 1 hm (by omega) (by omega)) (ev_neg (by simp; omega) (ev_pos rfl (ev_const rfl)))
end Go.Proofs.Ytlagoaoenaaglaa.A
namespace Go.Proofs.Ytlagoaoenaaglaa
/-- The row. -/
theorem fnExactCounterBoard_holds : Rows.FnExactCounterBoardSaid := fnExactCounterBoard.over A.lawCounterBoard
end Go.Proofs.Ytlagoaoenaaglaa
end
