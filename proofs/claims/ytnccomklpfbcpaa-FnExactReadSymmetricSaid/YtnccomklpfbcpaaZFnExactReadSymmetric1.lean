/- FnExactReadSymmetric: texts of this claim in one: Op, RowFnExactReadSymmetric, ASet, ASrt, ACnt, AFallE, LawReadSymmetric. -/
import Derived.Deep.Slices
import Derived.ChangeSame
import Derived.ChangeArms
import Derived.Test.YtnccomklpfbcpaaWWords
import Derived.Test.YtnccomklpfbcpaaRows
import Derived.Test.YtnccomklpfbcpaaYFnExactReadSymmetricPx74
import Derived.WalkKit
import Derived.ProofKit
import Derived.OpenShut
import Derived.ShutString
import Derived.ChangeOld
import Derived.Below
import Derived.SizedLaws
import Derived.Test.YtnccomklpfbcpaaYFnExactReadSymmetricPx70
import Derived.Test.YtnccomklpfbcpaaYFnExactReadSymmetricPx15
import Derived.Test.YtnccomklpfbcpaaYFnExactReadSymmetricABo
import Derived.Test.YtnccomklpfbcpaaYFnExactReadSymmetricAGo
import Derived.Test.YtnccomklpfbcpaaYFnExactReadSymmetricPx69
import Derived.Test.YtnccomklpfbcpaaYFnExactReadSymmetricAFall
import Derived.Test.YtnccomklpfbcpaaYFnExactReadSymmetricPx71
import Derived.Test.YtnccomklpfbcpaaYFnExactReadSymmetricABase
section
/- Opens an argument that a row reads as data into the cells and lists that a contract speaks of: whole numbers, slices, structs of two and three fields. -/
namespace Go.Proofs.Ytnccomklpfbcpaa.Op
open Go.ChangeShapes Go.WideShapes Go.Deep Go.RowKit Go.Proofs.YtnccomklpfbcpaaW.PrintWords
set_option linter.unusedVariables false

/-- What reads as data of type t is of kind d, and meets wf. -/
def Opens (P : Program) (t : TypeId) {α : Type} (d : Kd α) (wf : α → Prop) : Prop :=
  ∀ {H : Type} {enc : TypeId × Value → H} {w : World} {base : Nat} {spare : Nat → Bool} {held : Bool} {fuel : Nat} {cs : List Value} {x : DataW H × List MemPlace},
    DataW.trod enc P w base spare held fuel t cs = some x → ∃ a, d.K w a cs ∧ wf a

def WNum (k : IntKind) (n : Int) : Prop := (Lit.int k n).wf = true
abbrev WInt : Int → Prop := WNum .i64
def WList {α : Type} (wf : α → Prop) (l : List α) : Prop := l.length ≤ maxLen ∧ ∀ a ∈ l, wf a

theorem opens_int {P : Program} {t : TypeId} {k : IntKind} (h : P.underlying t = some (.int k)) : Opens P t (Kd.int k) (WNum k) := by
  intro H enc w base spare held fuel cs x ht
  obtain ⟨n, rfl, _, hw⟩ := DataW.trod_int h ht
  exact ⟨n, rfl, hw⟩

theorem opens_slice {P : Program} {t e : TypeId} {α : Type} {d : Kd α} {wf : α → Prop} (q : Nat) (h : P.underlying t = some (.slice e)) (hc : P.cellsOf e = d.sz) (o : Opens P e d wf) :
    Opens P t (Kd.slice q d) (WList wf) := by
  intro H enc w base spare held fuel cs x ht
  rcases open_slice h ht with ⟨rfl, _⟩ | ⟨a, len, cap, m, n, D, Pl, rfl, hb, hl, hm, hmm, hx, hi⟩
  · exact ⟨[], ⟨none, 0, rfl, Nat.le_refl _, rfl, by simp, fun hn => by simp at hn⟩, by simp [WList]⟩
  · have hlm : len ≤ m := by rw [hmm]; split <;> omega
    have each : ∀ i, i < len → ∃ y cs', w.cells? base (a.add (i * d.sz)) d.sz = some cs' ∧ d.K w y cs' ∧ wf y := by
      intro i hil
      obtain ⟨cs', h1, h2⟩ := hi i (by omega)
      obtain ⟨y, hk, hw⟩ := o h2
      rw [hc] at h1
      exact ⟨y, cs', h1, hk, hw⟩
    have build : ∀ k, k ≤ len → ∃ ys : List α, ys.length = k ∧ (∀ y ∈ ys, wf y) ∧ ∀ j y, ys[j]? = some y → ∃ c, c.length = d.sz ∧ d.K w y c ∧ ∀ i u, c[i]? = some u → w.cell? (a.add (j * d.sz + i)) = some u := by
      intro k
      induction k with
      | zero => exact fun _ => ⟨[], rfl, by simp, by simp⟩
      | succ k ih =>
        intro hk
        obtain ⟨ys, hlen, hwf, hys⟩ := ih (by omega)
        obtain ⟨y, cs', h1, h2, h3⟩ := each k (by omega)
        obtain ⟨_, hcl, hat⟩ := World.cells?_some h1
        refine ⟨ys ++ [y], by simp [hlen], ?_, ?_⟩
        · intro z hz
          rcases List.mem_append.1 hz with hz | hz
          · exact hwf z hz
          · rw [List.mem_singleton.1 hz]; exact h3
        · intro j z hj
          by_cases hjk : j < k
          · rw [List.getElem?_append_left (by omega)] at hj
            exact hys j z hj
          · have hjl : j < (ys ++ [y]).length := (List.getElem?_eq_some_iff.1 hj).1
            simp only [List.length_append, List.length_singleton, hlen] at hjl
            obtain rfl : j = k := by omega
            rw [List.getElem?_append_right (by omega), hlen, Nat.sub_self] at hj
            obtain rfl : y = z := by simpa using hj
            refine ⟨cs', hcl, h2, fun i u hu => ?_⟩
            have hil : i < d.sz := by
              have := (List.getElem?_eq_some_iff.1 hu).1
              omega
            have := hat i hil
            rw [Go.Deep.add_add] at this
            rw [this, hu]
    obtain ⟨ys, hlen, hwf, hys⟩ := build len (Nat.le_refl _)
    have hmx : len ≤ maxLen := by omega
    exact ⟨ys, ⟨some a, cap, by rw [hlen], by rw [hlen]; exact hl, rfl, by rw [hlen]; exact hmx, fun _ => ⟨a, rfl, hys⟩⟩, by rw [hlen]; exact hmx, hwf⟩

theorem opens_iso {P : Program} {t : TypeId} {α β : Type} {d : Kd α} {wf : α → Prop} (f : β → α) (g : α → β) (hg : ∀ a, f (g a) = a) (o : Opens P t d wf) : Opens P t (Kd.iso d f) (fun b => wf (f b)) := by
  intro H enc w base spare held fuel cs x ht
  obtain ⟨a, h1, h2⟩ := o ht
  exact ⟨g a, by show d.K w (f (g a)) cs; rw [hg]; exact h1, by show wf (f (g a)); rw [hg]; exact h2⟩

theorem opens_two {P : Program} {t : TypeId} {f0 f1 : Field} {α β : Type} {a : Kd α} {b : Kd β} {wa : α → Prop} {wb : β → Prop}
    (h : P.underlying t = some (.struct #[f0, f1])) (hc : P.cellsOf t = a.sz + b.sz) (o0 : f0.offset = 0) (o1 : f1.offset = a.sz) (c0 : P.cellsOf f0.type = a.sz) (c1 : P.cellsOf f1.type = b.sz)
    (oa : Opens P f0.type a wa) (ob : Opens P f1.type b wb) : Opens P t (Kd.pair a b) (fun x => wa x.1 ∧ wb x.2) := by
  intro H enc w base spare held fuel cs x ht
  obtain ⟨xs, n, _, _, hlen, hxl, hf⟩ := DataW.trod_struct h ht
  have hx2 : xs.length = 2 := hxl
  have h0 := hf 0 f0 rfl
  have h1 := hf 1 f1 rfl
  rw [List.getElem?_eq_getElem (by omega)] at h0 h1
  obtain ⟨y0, k0, w0⟩ := oa h0
  obtain ⟨y1, k1, w1⟩ := ob h1
  refine ⟨(y0, y1), ⟨_, _, ?_, k0, k1⟩, w0, w1⟩
  rw [hc] at hlen
  rw [o0, o1, c0, c1, List.drop_zero]
  rw [List.take_of_length_le (l := cs.drop a.sz) (by simp; omega), List.take_append_drop]

theorem opens_three {P : Program} {t : TypeId} {f0 f1 f2 : Field} {α β γ : Type} {a : Kd α} {b : Kd β} {c : Kd γ} {wa : α → Prop} {wb : β → Prop} {wc : γ → Prop}
    (h : P.underlying t = some (.struct #[f0, f1, f2])) (hc : P.cellsOf t = a.sz + (b.sz + c.sz)) (o0 : f0.offset = 0) (o1 : f1.offset = a.sz) (o2 : f2.offset = a.sz + b.sz) (c0 : P.cellsOf f0.type = a.sz) (c1 : P.cellsOf f1.type = b.sz) (c2 : P.cellsOf f2.type = c.sz)
    (oa : Opens P f0.type a wa) (ob : Opens P f1.type b wb) (oc : Opens P f2.type c wc) : Opens P t (Kd.pair a (Kd.pair b c)) (fun x => wa x.1 ∧ wb x.2.1 ∧ wc x.2.2) := by
  intro H enc w base spare held fuel cs x ht
  obtain ⟨xs, n, _, _, hlen, hxl, hf⟩ := DataW.trod_struct h ht
  have hx2 : xs.length = 3 := hxl
  have h0 := hf 0 f0 rfl
  have h1 := hf 1 f1 rfl
  have h2 := hf 2 f2 rfl
  rw [List.getElem?_eq_getElem (by omega)] at h0 h1 h2
  obtain ⟨y0, k0, w0⟩ := oa h0
  obtain ⟨y1, k1, w1⟩ := ob h1
  obtain ⟨y2, k2, w2⟩ := oc h2
  rw [hc] at hlen
  refine ⟨(y0, y1, y2), ⟨_, cs.drop a.sz, ?_, k0, ⟨_, _, ?_, k1, k2⟩⟩, w0, w1, w2⟩
  · rw [o0, c0, List.drop_zero, List.take_append_drop]
  · rw [o1, o2, c1, c2]
    rw [List.take_of_length_le (l := cs.drop (a.sz + b.sz)) (by simp; omega), ← List.drop_drop, List.take_append_drop]

/-- A slice among the arguments. -/
theorem open_arg_slice {P : Program} {t : TypeId} {α : Type} {d : Kd α} {wf : α → Prop} {q : Nat} (o : Opens P t (Kd.slice q d) (WList wf)) {H : Type} {enc : TypeId × Value → H} {w : World} {base : Nat} {spare : Nat → Bool} {held : Bool}
    {A : Option Addr} {len cap : Nat} {D : DataW H} {ps : List MemPlace} (h : DataW.Trod enc P w base spare held t (.slice A len cap) D ps) :
    ∃ l : List α, len = l.length ∧ l.length ≤ cap ∧ d.C w A l.length l ∧ WList wf l := by
  obtain ⟨fuel, hf⟩ := h
  obtain ⟨l, ⟨A', c, he, hl, hC⟩, hw⟩ := o hf
  simp only [Value.cells, List.cons.injEq, Value.slice.injEq, and_true] at he
  obtain ⟨rfl, rfl, rfl⟩ := he
  exact ⟨l, rfl, hl, hC, hw⟩
end Go.Proofs.Ytnccomklpfbcpaa.Op
end

section
/- FnExactReadSymmetric: the program and the reference agree for all arguments: the row over the pure statement. -/
namespace Go.Proofs.Ytnccomklpfbcpaa.fnExactReadSymmetric
open Go.ChangeShapes Go.WideShapes Go.ChangeAt Go.RowKit
open Go.ChangeMaps (open_string shut_string)
open Go.Proofs.Ytnccomklpfbcpaa.Op
set_option linter.unusedVariables false
def Pure : Prop := ∀ (l0 : (List Int)) (l1 : (List Int)), (WList (WNum .i64)) l0 → (WList (WNum .i64)) l1 → ∃ k, P.laws_FnExactReadSymmetric.f k l0 l1 = some true
theorem own : ownKnob Try.prog.godebug = none := by kernel_rfl
theorem laidOut : laidOutB Try.prog = true := by kernel_rfl
theorem ty3 : Opens Try.prog 3 (Go.Proofs.YtnccomklpfbcpaaW.PrintWords.Kd.int .i64) (WNum .i64) := opens_int Try.underlying3
theorem ty22 : Opens Try.prog 22 (Go.Proofs.YtnccomklpfbcpaaW.PrintWords.Kd.slice 3 (Go.Proofs.YtnccomklpfbcpaaW.PrintWords.Kd.int .i64)) (WList (WNum .i64)) := opens_slice 3 Try.underlying22 (by kernel_rfl) ty3
set_option maxRecDepth 100000 in
theorem lifted (pure : Pure) (os : Os) (started : os.Started) (H : Type) (enc : TypeId × Value → H) :
    ReturnsInHanded {} Try.checked os 8 .any (Rows.fnExactReadSymmetricSpec.pre6 enc Try.prog Try.f8 Rows.fnExactReadSymmetricRow.domain false) (Rows.fnExactReadSymmetricSpec.post enc Try.prog Try.f8 false true false false) := by
  refine returnsInHanded_of_change_sized (C := Try.checked) own started (by kernel_rfl) Try.func8
    (ChangeSpec.witness6 (enc := enc) (C := Try.checked) false ⟨#[], #[.slice none 0 0, .slice none 0 0], []⟩ 8 (by kernel_rfl) (by kernel_rfl) (by kernel_rfl) (by kernel_rfl)) ?_
  intro W base args ds gs before hval0 hW hcnd hsz0 _
  have hsz : (DataW.weightsEach Try.prog (Try.f8.params.toList ++ Rows.fnExactReadSymmetricSpec.plain.varTypes Try.prog) (ds ++ gs)).all (· ≤ reachBytes) = true := hsz0
  have hval : ∀ (j : Nat) t v, Try.f8.params[j]? = some t → args[j]? = some v → Value.okWide Try.prog W .any base t v := hval0
  have hW' := hW
  obtain ⟨p, q, hA0, hV, rfl, hfz, hnd⟩ := hW
  have hA : DataW.TrodAll enc Try.prog W 0 (fun _ => true) true Try.f8.params.toList args.toList ds p := hA0
  rw [Try.params8] at hA hval hsz
  obtain ⟨v0, vs0, d0, ds0, p0, q0, hargs, rfl, rfl, h0, r0⟩ := trodAll_cons hA
  obtain ⟨v1, vs1, d1, ds1, p1, q1, rfl, rfl, rfl, h1, r1⟩ := trodAll_cons r0
  obtain ⟨rfl, rfl, rfl⟩ := trodAll_nil r1
  obtain rfl : args = #[v0, v1] := by cases args; simp_all
  obtain ⟨rfl, rfl⟩ := trodVars_none hV
  have k0 := h0
  have lt0 : ∀ x ∈ p0, x.block < W.heap.size := by obtain ⟨m, hm⟩ := k0; exact DataW.trod_lt m _ _ _ hm
  obtain ⟨A0, len0, cap0, rfl⟩ := okWide_slice Try.underlying22 (hval 0 22 v0 rfl rfl)
  obtain ⟨l0, rfl, hc0, hC0, w0⟩ := open_arg_slice ty22 h0
  have k1 := h1
  have lt1 : ∀ x ∈ p1, x.block < W.heap.size := by obtain ⟨m, hm⟩ := k1; exact DataW.trod_lt m _ _ _ hm
  obtain ⟨A1, len1, cap1, rfl⟩ := okWide_slice Try.underlying22 (hval 1 22 v1 rfl rfl)
  obtain ⟨l1, rfl, hc1, hC1, w1⟩ := open_arg_slice ty22 h1
  clear hA0 hval0 hsz0 hsz
  obtain ⟨k, hk⟩ := pure l0 l1 w0 w1
  refine (P.laws_FnExactReadSymmetric.calls k _ _ l0 _ _ l1 true W hC0 hc0 hC1 hc1 hk).mono fun e W' ⟨he, bel⟩ => ?_
  subst he
  exact ⟨_, rfl, _, _, _, [], _, [], hW', trodAll_mk1 (shut_bool Try.underlying4 _), (trodAll_cons_mk (Below.trod laidOut (by kernel_rfl) (of_decide_eq_true (by kernel_rfl)) k0 bel lt0) (trodAll_cons_mk (Below.trod laidOut (by kernel_rfl) (of_decide_eq_true (by kernel_rfl)) k1 bel lt1) trodAll_mk0)), rfl, bel.frame _, fun h => by cases h⟩
theorem over (pure : Pure) : Rows.fnExactReadSymmetricRow.holds Try.pinned (OpenSpec.ofChange Rows.fnExactReadSymmetricSpec) :=
  OpenClaim.holds_of_wide 8 Try.f8 rfl rfl rfl rfl rfl rfl rfl ⟨rfl, rfl, rfl, rfl, rfl⟩ rfl rfl rfl rfl rfl (by kernel_rfl) Try.func8 (by kernel_rfl)
    (of_decide_eq_true (by kernel_rfl)) (by unfold Func.isWrapper; first | (rw [if_pos (by decide +kernel)]; kernel_rfl) | (rw [if_neg (by decide +kernel)]; exact ⟨rfl, rfl⟩))
    (fun os started H enc _ => lifted pure os started H enc)
end Go.Proofs.Ytnccomklpfbcpaa.fnExactReadSymmetric
end

section
/- What the printed functions that set the flips of a counting board come to. -/
namespace Go.Proofs.Ytnccomklpfbcpaa.A
open Go.RowKit Go.Proofs.YtnccomklpfbcpaaW.PrintWords Go.Proofs.YtnccomklpfbcpaaW.PrintLast Go.Proofs.YtnccomklpfbcpaaW.PrintMore Go.Proofs.Ytnccomklpfbcpaa.P Go.Proofs.Ytnccomklpfbcpaa.T
set_option linter.unusedVariables false
set_option linter.unusedSimpArgs false

/-- The cells from place i on, each flip with the state that its row's input says. -/
def setGo (c : Int) (xs : List Int) : Int → List S72 → List S72
  | _, [] => []
  | i, y :: l => (if y.f0 = 3 then ⟨y.f0, rd xs (i / c)⟩ else y) :: setGo c xs (i + 1) l
theorem setGo_length (c : Int) (xs : List Int) : ∀ (l : List S72) (i : Int), (setGo c xs i l).length = l.length := by
  intro l
  induction l with
  | nil => intro i; rfl
  | cons y l ih => intro i; simp [setGo, ih]
theorem div_row {i c n : Int} (h0 : 0 ≤ i) (hc : 1 ≤ c) (h : i < n * c) (hn : n ≤ 100) : wrap64 (Int.tdiv i c) = i / c ∧ 0 ≤ i / c ∧ i / c < n := by
  have h1 : 0 ≤ i / c := Int.ediv_nonneg h0 (by omega)
  have h2 : i / c < n := Int.ediv_lt_of_lt_mul (by omega) h
  rw [Int.tdiv_eq_ediv_of_nonneg h0, wrap_id (by omega) (by omega)]
  exact ⟨rfl, h1, h2⟩
def SetOk (r c : Int) (l : List S72) (xs : List Int) : Prop := BoOk r c l ∧ (1 ≤ (xs.length : Int) ∧ (xs.length : Int) ≤ 4) ∧ (∀ x ∈ xs, 0 ≤ x ∧ x ≤ 1) ∧ r = xs.length ∧ c = 2 * (xs.length : Int) + 1
instance (r c : Int) (l : List S72) (xs : List Int) : Decidable (SetOk r c l xs) := by unfold SetOk; infer_instance
def setB (r c : Int) (l : List S72) (xs : List Int) : Int × Int × List S72 × Bool := if SetOk r c l xs then (r, c, setGo c xs 0 l, true) else (0, 0, [], false)
theorem setB_len (r c : Int) (l : List S72) (xs : List Int) : (setB r c l xs).2.2.1.length ≤ 90 := by
  unfold setB
  split
  · rename_i h; rw [setGo_length]; exact h.1.len
  · simp
theorem cbSet_loop {r c : Int} (xs : List Int) (l : List S72) (hc : 1 ≤ c) (hn : xs.length ≤ 10) (hl : (l.length : Int) = xs.length * c) (hm : l.length ≤ 90) : ∀ (suf pre done : List S72), l = pre ++ suf → done.length = pre.length →
    Ev (fun k => spec_cbSet.l0 k xs l (l.length : Int) (pre.length : Int) r c l r c (done ++ suf)) (r, c, done ++ setGo c xs pre.length suf) := by
  intro suf
  induction suf with
  | nil =>
    intro pre done h1 h2
    subst h1
    exact Ev.step (fun k => spec_cbSet.l0.eq_2 ..) (ev_neg (by simp) (ev_const (by simp [setGo])))
  | cons y suf ih =>
    intro pre done h1 h2
    subst h1
    have hlt := lt_mid pre y suf
    obtain ⟨d1, d2, d3⟩ := div_row (i := (pre.length : Int)) (by omega) hc (hl ▸ hlt) (by omega)
    refine Ev.step (fun k => spec_cbSet.l0.eq_2 ..) (ev_pos hlt (ev_pos (by omega) (ev_pos hlt ?_)))
    rw [rdc_mid]
    have hnx := next_mid pre y suf (by simp only [maxLen]; omega)
    have hrd : rd_T72 (done ++ y :: suf) (pre.length : Int) = y := by rw [← h2]; exact rdc_mid done y suf
    by_cases h3 : y.f0 = 3
    · refine ev_pos h3 (ev_neg (by omega) (ev_pos (by rw [d1]; exact d2) (ev_pos (by rw [d1]; exact d3) (ev_pos (by rw [← h2]; exact lt_mid _ _ _) ?_))))
      rw [hrd, d1, hnx]
      have := ih (pre ++ [y]) (done ++ [⟨y.f0, rd xs (pre.length / c)⟩]) (assoc_mid _ _ _) (by simp [h2])
      rw [show (done ++ y :: suf).set ((pre.length : Int)).toNat ⟨y.f0, rd xs (pre.length / c)⟩ = (done ++ [⟨y.f0, rd xs (pre.length / c)⟩]) ++ suf by rw [← h2]; exact set_mid _ _ _ _]
      simpa [setGo, h3] using this
    · refine ev_neg h3 ?_
      rw [hnx]
      have := ih (pre ++ [y]) (done ++ [y]) (assoc_mid _ _ _) (by simp [h2])
      simpa [setGo, h3] using this
theorem cbSet {r c : Int} (xs : List Int) (l : List S72) (hc : 1 ≤ c) (hn : xs.length ≤ 10) (hl : (l.length : Int) = xs.length * c) (hm : l.length ≤ 90) : Ev (fun k => spec_cbSet.f k r c l xs) (r, c, setGo c xs 0 l) := by
  unfold spec_cbSet.f
  refine ev_bindc (a := (r, c, l)) ?_ (cbSet_loop (r := r) xs l hc hn hl hm l [] [] rfl rfl)
  unfold spec_boOwn.f
  rw [Option.bind_some, if_pos (by simp; omega)]; rfl
theorem areBits_loop (l : List Int) (hm : l.length ≤ maxLen) : ∀ (suf pre : List Int), l = pre ++ suf →
    Ev (fun k => impl_areBits.l0 k l (l.length : Int) (pre.length : Int)) (decide (∀ x ∈ suf, 0 ≤ x ∧ x ≤ 1)) := by
  intro suf
  induction suf with
  | nil =>
    intro pre h1
    subst h1
    exact Ev.step (fun k => impl_areBits.l0.eq_2 ..) (ev_neg (by simp) (ev_const (by simp)))
  | cons y suf ih =>
    intro pre h1
    subst h1
    have hlt := lt_mid pre y suf
    have hrest := ih (pre ++ [y]) (assoc_mid _ _ _)
    refine Ev.step (fun k => impl_areBits.l0.eq_2 ..) (ev_pos hlt (ev_pos (by omega) (ev_pos hlt ?_)))
    rw [rd_mid, next_mid pre y suf hm]
    by_cases h0 : y = 0
    · refine ev_pos h0 ?_
      rw [show decide (∀ x ∈ y :: suf, 0 ≤ x ∧ x ≤ 1) = decide (∀ x ∈ suf, 0 ≤ x ∧ x ≤ 1) by simp [h0]]
      exact hrest
    refine ev_neg h0 ?_
    by_cases h1 : y = 1
    · refine ev_pos h1 ?_
      rw [show decide (∀ x ∈ y :: suf, 0 ≤ x ∧ x ≤ 1) = decide (∀ x ∈ suf, 0 ≤ x ∧ x ≤ 1) by simp [h1]]
      exact hrest
    refine ev_neg h1 (ev_const ?_)
    rw [decide_eq_false]
    intro h
    have := h y List.mem_cons_self
    omega
theorem areBits (l : List Int) (hm : l.length ≤ maxLen) : Ev (fun k => impl_areBits.f k l) (decide (∀ x ∈ l, 0 ≤ x ∧ x ≤ 1)) := by
  unfold impl_areBits.f
  exact areBits_loop l hm l [] rfl
end Go.Proofs.Ytnccomklpfbcpaa.A
end

section
/- Odd-even rounds on a row of bits, in plain lists: the sorting board of a table. -/
namespace Go.Proofs.Ytnccomklpfbcpaa.A
open Go.RowKit Go.Proofs.YtnccomklpfbcpaaW.PrintWords Go.Proofs.YtnccomklpfbcpaaW.PrintLast Go.Proofs.YtnccomklpfbcpaaW.PrintMore Go.Proofs.Ytnccomklpfbcpaa.P Go.Proofs.Ytnccomklpfbcpaa.T
set_option linter.unusedVariables false
set_option linter.unusedSimpArgs false

/-- One round from place c on: the values alone. -/
def passV : Nat → Nat → List Int → List Int
  | 0, _, v => v
  | d + 1, c, v => if c + 1 < v.length then
      (if rd v ((c + 1 : Nat) : Int) < rd v (c : Int) then passV d (c + 2) ((v.set c 0).set (c + 1) 1) else passV d (c + 2) v)
    else v
/-- One round from place c on: values, entries, the row of cells. -/
def passL : Nat → Nat → List Int → List Int → List S72 → List Int × List Int × List S72
  | 0, _, v, e, r => (v, e, r)
  | d + 1, c, v, e, r => if c + 1 < v.length then
      (if rd v ((c + 1 : Nat) : Int) < rd v (c : Int) then passL d (c + 2) ((v.set c 0).set (c + 1) 1) ((e.set c (rd e ((c + 1 : Nat) : Int))).set (c + 1) (rd e (c : Int))) ((r.set c ⟨2, 0⟩).set (c + 1) ⟨1, 0⟩) else passL d (c + 2) v e r)
    else (v, e, r)
theorem passL_v : ∀ (d c : Nat) (v e : List Int) (r : List S72), (passL d c v e r).1 = passV d c v := by
  intro d
  induction d with
  | zero => intro c v e r; rfl
  | succ d ih =>
    intro c v e r
    unfold passL passV
    by_cases h : c + 1 < v.length
    · rw [if_pos h, if_pos h]
      by_cases h1 : rd v ((c + 1 : Nat) : Int) < rd v (c : Int)
      · rw [if_pos h1, if_pos h1]; exact ih ..
      · rw [if_neg h1, if_neg h1]; exact ih ..
    · rw [if_neg h, if_neg h]
theorem passL_len : ∀ (d c : Nat) (v e : List Int) (r : List S72), (passL d c v e r).1.length = v.length ∧ (passL d c v e r).2.1.length = e.length ∧ (passL d c v e r).2.2.length = r.length := by
  intro d
  induction d with
  | zero => intro c v e r; exact ⟨rfl, rfl, rfl⟩
  | succ d ih =>
    intro c v e r
    unfold passL
    by_cases h : c + 1 < v.length
    · rw [if_pos h]
      by_cases h1 : rd v ((c + 1 : Nat) : Int) < rd v (c : Int)
      · rw [if_pos h1]
        refine ⟨?_, ?_, ?_⟩
        · rw [(ih ..).1]; simp
        · rw [(ih ..).2.1]; simp
        · rw [(ih ..).2.2]; simp
      · rw [if_neg h1]; exact ih ..
    · rw [if_neg h]; exact ⟨rfl, rfl, rfl⟩
/-- Sorted from place i on. -/
def srtF : Nat → Nat → List Int → Bool
  | 0, _, _ => true
  | d + 1, i, v => if i + 1 < v.length then (if rd v ((i + 1 : Nat) : Int) < rd v (i : Int) then false else srtF d (i + 1) v) else true
def srtL (v : List Int) : Bool := srtF v.length 0 v
/-- Sorted after at most d rounds (at least one), the first one being round r. -/
def within : Nat → Nat → List Int → Bool
  | 0, _, _ => false
  | d + 1, r, v => srtL (passV v.length (r % 2) v) || within d (r + 1) (passV v.length (r % 2) v)
/-- All lists of n bits. -/
def bitsOf : Nat → List (List Int)
  | 0 => [[]]
  | n + 1 => (bitsOf n).flatMap fun l => [0 :: l, 1 :: l]
theorem mem_bitsOf : ∀ (n : Nat) (v : List Int), v.length = n → (∀ x ∈ v, x = 0 ∨ x = 1) → v ∈ bitsOf n := by
  intro n
  induction n with
  | zero => intro v h _; cases v with | nil => simp [bitsOf] | cons x v => simp at h
  | succ n ih =>
    intro v h hv
    cases v with
    | nil => simp at h
    | cons x v =>
      have h1 := ih v (by simpa using h) (fun y hy => hv y (List.mem_cons_of_mem _ hy))
      simp only [bitsOf, List.mem_flatMap]
      refine ⟨v, h1, ?_⟩
      cases hv x (List.mem_cons_self ..) with
      | inl e => subst e; simp
      | inr e => subst e; simp
theorem within1 : ∀ v ∈ bitsOf 1, within 9 0 v = true := by decide +kernel
theorem within2 : ∀ v ∈ bitsOf 2, within 9 0 v = true := by decide +kernel
theorem within4 : ∀ v ∈ bitsOf 4, within 9 0 v = true := by decide +kernel
theorem within8 : ∀ v ∈ bitsOf 8, within 9 0 v = true := by decide +kernel
theorem within_ok (v : List Int) (h : v.length = 1 ∨ v.length = 2 ∨ v.length = 4 ∨ v.length = 8) (hv : ∀ x ∈ v, x = 0 ∨ x = 1) : within 9 0 v = true := by
  rcases h with h | h | h | h
  · exact within1 v (mem_bitsOf 1 v h hv)
  · exact within2 v (mem_bitsOf 2 v h hv)
  · exact within4 v (mem_bitsOf 4 v h hv)
  · exact within8 v (mem_bitsOf 8 v h hv)
/-- Round after round until the values are sorted: rows, values, entries, cells. -/
def roundsL : Nat → Nat → List Int → List Int → List S72 → Nat × List Int × List Int × List S72
  | 0, r, v, e, cs => (r, v, e, cs)
  | d + 1, r, v, e, cs =>
    let p := passL v.length (r % 2) v e (List.replicate v.length ⟨0, 0⟩)
    if srtL p.1 then (r + 1, p.1, p.2.1, cs ++ p.2.2) else roundsL d (r + 1) p.1 p.2.1 (cs ++ p.2.2)

/-- The program's test on bits is the reference's. -/
theorem bit_gt (a b : Int) (ha : a = 0 ∨ a = 1) (hb : b = 0 ∨ b = 1) : (a = 1 ∧ b = 0) ↔ b < a := by omega
theorem set_bits (l : List Int) (c : Nat) (x : Int) (hx : x = 0 ∨ x = 1) (h : ∀ y ∈ l, y = 0 ∨ y = 1) : ∀ y ∈ l.set c x, y = 0 ∨ y = 1 := by
  intro y hy
  rcases List.mem_or_eq_of_mem_set hy with h1 | h1
  · exact h y h1
  · subst h1; exact hx
theorem passV_bits : ∀ (d c : Nat) (v : List Int), (∀ y ∈ v, y = 0 ∨ y = 1) → ∀ y ∈ passV d c v, y = 0 ∨ y = 1 := by
  intro d
  induction d with
  | zero => intro c v h; exact h
  | succ d ih =>
    intro c v h
    unfold passV
    by_cases h1 : c + 1 < v.length
    · rw [if_pos h1]
      by_cases h2 : rd v ((c + 1 : Nat) : Int) < rd v (c : Int)
      · rw [if_pos h2]; exact ih _ _ (set_bits _ _ _ (Or.inr rfl) (set_bits _ _ _ (Or.inl rfl) h))
      · rw [if_neg h2]; exact ih _ _ h
    · rw [if_neg h1]; exact h
theorem roundsL_sorted : ∀ (d r : Nat) (v e : List Int) (cs : List S72), within d r v = true → srtL (roundsL d r v e cs).2.1 = true ∧ (roundsL d r v e cs).1 ≤ r + d := by
  intro d
  induction d with
  | zero => intro r v e cs h; simp [within] at h
  | succ d ih =>
    intro r v e cs h
    simp only [roundsL, passL_v]
    simp only [within, Bool.or_eq_true] at h
    by_cases h1 : srtL (passV v.length (r % 2) v) = true
    · rw [if_pos h1]; exact ⟨h1, by omega⟩
    · rw [if_neg h1]
      have h2 := ih (r + 1) (passV v.length (r % 2) v) (passL v.length (r % 2) v e (List.replicate v.length ⟨0, 0⟩)).2.1 (cs ++ (passL v.length (r % 2) v e (List.replicate v.length ⟨0, 0⟩)).2.2) (h.resolve_left h1)
      exact ⟨h2.1, by omega⟩
/-- What the kinds of a sorting board are. -/
theorem passL_kinds : ∀ (d c : Nat) (v e : List Int) (r : List S72), (∀ x ∈ r, x.f0 = 0 ∨ x.f0 = 2 ∨ x.f0 = 1) → ∀ x ∈ (passL d c v e r).2.2, x.f0 = 0 ∨ x.f0 = 2 ∨ x.f0 = 1 := by
  intro d
  induction d with
  | zero => intro c v e r h; exact h
  | succ d ih =>
    intro c v e r h
    unfold passL
    by_cases h1 : c + 1 < v.length
    · rw [if_pos h1]
      by_cases h2 : rd v ((c + 1 : Nat) : Int) < rd v (c : Int)
      · rw [if_pos h2]
        refine ih _ _ _ _ ?_
        intro x hx
        rcases List.mem_or_eq_of_mem_set hx with h3 | h3
        · rcases List.mem_or_eq_of_mem_set h3 with h4 | h4
          · exact h x h4
          · subst h4; exact Or.inr (Or.inl rfl)
        · subst h3; exact Or.inr (Or.inr rfl)
      · rw [if_neg h2]; exact ih _ _ _ _ h
    · rw [if_neg h1]; exact h
theorem roundsL_kinds : ∀ (d r : Nat) (v e : List Int) (cs : List S72), (∀ x ∈ cs, x.f0 = 0 ∨ x.f0 = 2 ∨ x.f0 = 1) → ∀ x ∈ (roundsL d r v e cs).2.2.2, x.f0 = 0 ∨ x.f0 = 2 ∨ x.f0 = 1 := by
  intro d
  induction d with
  | zero => intro r v e cs h; exact h
  | succ d ih =>
    intro r v e cs h
    have h0 : ∀ x ∈ cs ++ (passL v.length (r % 2) v e (List.replicate v.length ⟨0, 0⟩)).2.2, x.f0 = 0 ∨ x.f0 = 2 ∨ x.f0 = 1 := by
      intro x hx
      rcases List.mem_append.1 hx with h1 | h1
      · exact h x h1
      · refine passL_kinds _ _ _ _ _ ?_ x h1
        intro y hy
        rw [(List.mem_replicate.1 hy).2]; exact Or.inl rfl
    simp only [roundsL]
    by_cases h1 : srtL (passL v.length (r % 2) v e (List.replicate v.length ⟨0, 0⟩)).1 = true
    · rw [if_pos h1]; exact h0
    · rw [if_neg h1]; exact ih _ _ _ _ h0
/-- The ramps of a board that has nothing but ramps. -/
theorem ramps_count : ∀ (l : List S72), (∀ x ∈ l, x.f0 = 0 ∨ x.f0 = 2 ∨ x.f0 = 1) → kindCount 1 l + kindCount 2 l = ((l.filter fun x => x.f0 ≠ 0).length : Int) := by
  intro l
  induction l with
  | nil => intro _; simp [kindCount]
  | cons y l ih =>
    intro h
    have h1 := ih (fun x hx => h x (List.mem_cons_of_mem _ hx))
    have h2 := h y (List.mem_cons_self ..)
    simp only [kindCount, List.filter_cons] at h1 ⊢
    rcases h2 with h2 | h2 | h2 <;> simp [h2] at h1 ⊢ <;> omega
end Go.Proofs.Ytnccomklpfbcpaa.A
end

section
/- The counting board leads a marble to twice the number of ones. -/
namespace Go.Proofs.Ytnccomklpfbcpaa.A
open Go.RowKit Go.Proofs.YtnccomklpfbcpaaW.PrintWords Go.Proofs.YtnccomklpfbcpaaW.PrintLast Go.Proofs.YtnccomklpfbcpaaW.PrintMore Go.Proofs.Ytnccomklpfbcpaa.P Go.Proofs.Ytnccomklpfbcpaa.T
set_option linter.unusedVariables false
set_option linter.unusedSimpArgs false
/-- The counting board that is set. -/
def cntSet (l : List Int) : List S72 := l.flatMap fun b => List.replicate (2 * l.length + 1) ⟨3, b⟩
def onesL : List Int → Int
  | [] => 0
  | x :: l => x + onesL l
def cntOk (l : List Int) : Bool := decide ((goC (2 * l.length + 1) (List.replicate (l.length * (2 * l.length + 1)) (-1)) l.length 0 (l.length : Int) 0 (cntSet l)).1.2.2 = 2 * onesL l)
theorem cnt1 : ∀ l ∈ bitsOf 1, cntOk l = true := by decide +kernel
theorem cnt2 : ∀ l ∈ bitsOf 2, cntOk l = true := by decide +kernel
theorem cnt3 : ∀ l ∈ bitsOf 3, cntOk l = true := by decide +kernel
theorem cnt4 : ∀ l ∈ bitsOf 4, cntOk l = true := by decide +kernel
end Go.Proofs.Ytnccomklpfbcpaa.A
end

section
/- What the reference's flRun comes to. -/
namespace Go.Proofs.Ytnccomklpfbcpaa.A
open Go.RowKit Go.Proofs.YtnccomklpfbcpaaW.PrintWords Go.Proofs.YtnccomklpfbcpaaW.PrintLast Go.Proofs.YtnccomklpfbcpaaW.PrintMore Go.Proofs.Ytnccomklpfbcpaa.P Go.Proofs.Ytnccomklpfbcpaa.T
theorem flRunE (R cn : Nat) (cs : List S72) (col : Int) (hb : BoOk R cn cs) (h0 : 0 ≤ col) (h1 : col < (cn : Int)) :
    Ev (fun k => spec_flRun.f k (R : Int) (cn : Int) cs col) ((fallL R cn cs col).1.1, (fallL R cn cs col).1.2.1, (fallL R cn cs col).1.2.2, (R : Int), (cn : Int), (fallL R cn cs col).2) :=
  ⟨0, fun k _ => by
    show spec_flRun.f k (R : Int) (cn : Int) cs col = _
    unfold spec_flRun.f
    rw [if_pos ⟨hb, h0, h1⟩, Int.toNat_natCast, Int.toNat_natCast]⟩
end Go.Proofs.Ytnccomklpfbcpaa.A
end

section
/- FnExactReadSymmetric: the program's ReadSymmetric returns what the reference's returns, for all lists that are not longer than 2^20 (as the law's own guard says). -/
namespace Go.Proofs.Ytnccomklpfbcpaa.A
open Go.RowKit Go.Proofs.YtnccomklpfbcpaaW.PrintWords Go.Proofs.YtnccomklpfbcpaaW.PrintLast Go.Proofs.YtnccomklpfbcpaaW.PrintMore Go.Proofs.Ytnccomklpfbcpaa.P Go.Proofs.Ytnccomklpfbcpaa.T
set_option linter.unusedVariables false
set_option linter.unusedSimpArgs false

def flips (n : Nat) : List S72 := List.replicate n ⟨3, 0⟩
theorem flips_succ (n : Nat) : flips n ++ [⟨3, 0⟩] = flips (n + 1) := by
  simp [flips, List.replicate_succ']
theorem flips_len (m : Nat) : (flips m).length = m := by simp [flips]
theorem cbc_loop (a b : Int) (n : Int) (hn : a * b = n) (hm : n ≤ 36) : ∀ (d m : Nat), (m : Int) + d = n → Ev (fun k => spec_cbCounting.l0 k a b (flips m)) (a, b, flips n.toNat) := by
  intro d
  induction d with
  | zero =>
    intro m h
    refine Ev.step (fun k => spec_cbCounting.l0.eq_2 ..) (ev_neg ?_ (ev_const ?_))
    · rw [hn, flips_len, wrap_id (by omega) (by omega)]; omega
    · rw [show n.toNat = m by omega]
  | succ d ih =>
    intro m h
    refine Ev.step (fun k => spec_cbCounting.l0.eq_2 ..) (ev_pos ?_ (ev_pos ?_ ?_))
    · rw [hn, flips_len, wrap_id (by omega) (by omega)]; omega
    · rw [flips_len]; omega
    · rw [flips_succ]
      exact ih (m + 1) (by omega)
/-- The counting board that is set for inputs. -/
def cntB (l : List Int) : List S72 := setGo (2 * (l.length : Int) + 1) l 0 (flips (l.length * (2 * l.length + 1)))
def cntGood (l : List Int) : Bool :=
  decide (BoOk (l.length : Int) ((2 * l.length + 1 : Nat) : Int) (cntB l)) && (cntB l).all (fun x => !gearB x) &&
    decide ((goC (2 * l.length + 1) (List.replicate (l.length * (2 * l.length + 1)) (-1)) l.length 0 (l.length : Int) 0 (cntB l)).1.2.2 = 2 * onesL l)
theorem cg1 : ∀ l ∈ bitsOf 1, cntGood l = true := by decide +kernel
theorem cg2 : ∀ l ∈ bitsOf 2, cntGood l = true := by decide +kernel
theorem cg3 : ∀ l ∈ bitsOf 3, cntGood l = true := by decide +kernel
theorem cg4 : ∀ l ∈ bitsOf 4, cntGood l = true := by decide +kernel
theorem cntGood_ok (l : List Int) (h1 : 1 ≤ l.length) (h4 : l.length ≤ 4) (hb : ∀ x ∈ l, 0 ≤ x ∧ x ≤ 1) : cntGood l = true := by
  have hm : l ∈ bitsOf l.length := mem_bitsOf _ l rfl (fun x hx => by have := hb x hx; omega)
  have : l.length = 1 ∨ l.length = 2 ∨ l.length = 3 ∨ l.length = 4 := by omega
  rcases this with h | h | h | h <;> rw [h] at hm
  · exact cg1 l hm
  · exact cg2 l hm
  · exact cg3 l hm
  · exact cg4 l hm
theorem cnt_fall (l : List Int) (h1 : 1 ≤ l.length) (h4 : l.length ≤ 4) (hb : ∀ x ∈ l, 0 ≤ x ∧ x ≤ 1) :
    BoOk (l.length : Int) ((2 * l.length + 1 : Nat) : Int) (cntB l) ∧ (fallL l.length (2 * l.length + 1) (cntB l) (l.length : Int)).1.2.2 = 2 * onesL l := by
  have h := cntGood_ok l h1 h4 hb
  unfold cntGood at h
  rw [Bool.and_eq_true, Bool.and_eq_true, decide_eq_true_eq, decide_eq_true_eq, List.all_eq_true] at h
  obtain ⟨⟨hB, hg⟩, hf⟩ := h
  refine ⟨hB, ?_⟩
  have hn : grpL l.length (2 * l.length + 1) (cntB l) = List.replicate (l.length * (2 * l.length + 1)) (-1) := by
    unfold grpL
    exact groupsL_none _ _ _ (fun x hx => by have := hg x hx; simpa using this) _ _ _ _
  unfold fallL
  rw [hn]
  exact hf
theorem ones_lo : ∀ (l : List Int), (∀ x ∈ l, 0 ≤ x ∧ x ≤ 1) → 0 ≤ onesL l ∧ onesL l ≤ (l.length : Int) := by
  intro l
  induction l with
  | nil => intro _; simp [onesL]
  | cons x l ih =>
    intro h
    have h1 := ih (fun y hy => h y (List.mem_cons_of_mem _ hy))
    have h2 := h x (List.mem_cons_self ..)
    rw [onesL, List.length_cons]
    omega
def RsOk (v l : List Int) : Prop := ((1 ≤ (l.length : Int) ∧ (l.length : Int) ≤ 4) ∧ ∀ x ∈ l, 0 ≤ x ∧ x ≤ 1) ∧ (v.length : Int) = (l.length : Int) + 1 ∧ ∀ x ∈ v, 0 ≤ x ∧ x ≤ 1
instance (v l : List Int) : Decidable (RsOk v l) := by unfold RsOk; infer_instance
def resRS (v l : List Int) : Int × Bool := if RsOk v l then (rd v (onesL l), true) else (0, false)
theorem wrap_len (l : List Int) (h : l.length ≤ 1048576) : wrap64 ((l.length : Int) + 1) = (l.length : Int) + 1 := wrap_id (by omega) (by omega)
theorem specInputs (xs : List Int) (hm : xs.length ≤ maxLen) : Ev (fun k => spec_cbInputs.f k xs) (decide ((1 ≤ (xs.length : Int) ∧ (xs.length : Int) ≤ 4) ∧ ∀ x ∈ xs, 0 ≤ x ∧ x ≤ 1)) := by
  unfold spec_cbInputs.f
  refine ev_bindc (in_f _ _ _) ?_
  simp only [decide_eq_true_eq]
  by_cases h : 1 ≤ (xs.length : Int) ∧ (xs.length : Int) ≤ 4
  · refine ev_pos h (ev_bind (l1All xs 0 1 hm) (ev_const ?_))
    simp [h]
  · refine ev_neg h (ev_const ?_)
    rw [decide_eq_false (fun h2 => h h2.1)]
theorem specRS (v l : List Int) (hv : v.length ≤ 1048576) (hl : l.length ≤ 1048576) : Ev (fun k => spec_ReadSymmetric.f k v l) (resRS v l) := by
  have hvm : v.length ≤ maxLen := by simp only [maxLen]; omega
  have hlm : l.length ≤ maxLen := by simp only [maxLen]; omega
  have no : ¬ RsOk v l → Ev (fun k => spec_ReadSymmetric.j0 k v l true) (resRS v l) := fun h => by
    unfold resRS
    rw [if_neg h]
    exact Ev.step (fun k => spec_ReadSymmetric.j0.eq_2 ..) (ev_pos rfl (ev_const rfl))
  unfold spec_ReadSymmetric.f
  refine ev_bind (specInputs l hlm) ?_
  simp only [decide_eq_true_eq]
  rw [wrap_len l hl]
  by_cases h1 : (1 ≤ (l.length : Int) ∧ (l.length : Int) ≤ 4) ∧ ∀ x ∈ l, 0 ≤ x ∧ x ≤ 1
  case neg => exact ev_neg h1 (no (fun h => h1 h.1))
  refine ev_pos h1 ?_
  by_cases h2 : (v.length : Int) = (l.length : Int) + 1
  case neg => exact ev_neg h2 (no (fun h => h2 h.2.1))
  refine ev_pos h2 (ev_bind (l1All v 0 1 hvm) ?_)
  by_cases h3 : ∀ x ∈ v, 0 ≤ x ∧ x ≤ 1
  case neg =>
    rw [decide_eq_false h3]
    exact no (fun h => h3 h.2.2)
  rw [decide_eq_true h3]
  unfold resRS
  rw [if_pos ⟨h1, h2, h3⟩]
  have hn1 : 1 ≤ l.length := by have := h1.1.1; omega
  have hn4 : l.length ≤ 4 := by have := h1.1.2; omega
  obtain ⟨hB, hF⟩ := cnt_fall l hn1 hn4 h1.2
  have ho := ones_lo l h1.2
  have hlen : (flips (l.length * (2 * l.length + 1))).length = l.length * (2 * l.length + 1) := flips_len _
  have h36 : l.length * (2 * l.length + 1) ≤ 36 := by
    have : l.length * (2 * l.length + 1) ≤ 4 * 9 := Nat.mul_le_mul hn4 (by omega)
    omega
  have hcast : ((l.length : Int) * (2 * (l.length : Int) + 1)) = ((l.length * (2 * l.length + 1) : Nat) : Int) := by simp
  have hc := cbc_loop (l.length : Int) (2 * (l.length : Int) + 1) _ hcast (by omega) (l.length * (2 * l.length + 1)) 0 (by omega)
  rw [Int.toNat_natCast] at hc
  have hC : Ev (fun k => spec_cbCounting.f k (l.length : Int)) ((l.length : Int), 2 * (l.length : Int) + 1, flips (l.length * (2 * l.length + 1))) := by
    unfold spec_cbCounting.f
    have w1 : wrap64 (2 * (l.length : Int)) = 2 * (l.length : Int) := wrap_id (by omega) (by omega)
    have w2 : wrap64 (2 * (l.length : Int) + 1) = 2 * (l.length : Int) + 1 := wrap_id (by clear w1; omega) (by clear w1; omega)
    rw [w1, w2]
    exact hc
  have hS := cbSet (r := (l.length : Int)) (c := 2 * (l.length : Int) + 1) l (flips (l.length * (2 * l.length + 1))) (by omega) (by omega) (by rw [hlen, ← hcast]) (by rw [hlen]; omega)
  have hR := flRunE l.length (2 * l.length + 1) (cntB l) (l.length : Int) hB (by omega) (by omega)
  refine Ev.step (fun k => spec_ReadSymmetric.j0.eq_2 ..) (ev_neg (by simp) ?_)
  refine ev_bind hC (ev_bind hS (ev_bind (a := ((fallL l.length (2 * l.length + 1) (cntB l) (l.length : Int)).1.1, (fallL l.length (2 * l.length + 1) (cntB l) (l.length : Int)).1.2.1, (fallL l.length (2 * l.length + 1) (cntB l) (l.length : Int)).1.2.2, (l.length : Int), ((2 * l.length + 1 : Nat) : Int), (fallL l.length (2 * l.length + 1) (cntB l) (l.length : Int)).2)) ?_ ?_))
  · exact hR
  · simp only
    rw [hF, show Int.tdiv (2 * onesL l) 2 = onesL l from Int.mul_tdiv_cancel_left _ (by decide)]
    have w3 : wrap64 (onesL l) = onesL l := wrap_id (by omega) (by omega)
    rw [w3]
    exact ev_pos ho.1 (ev_pos (by clear w3; omega) (ev_const rfl))
theorem implSum (v l : List Int) (hl : l.length ≤ 1000) (hb : ∀ x ∈ l, 0 ≤ x ∧ x ≤ 1) (hv : (v.length : Int) = (l.length : Int) + 1) : ∀ (suf pre : List Int) (acc : Int), l = pre ++ suf → 0 ≤ acc → acc ≤ (pre.length : Int) →
    Ev (fun k => impl_ReadSymmetric.l0 k v acc l (l.length : Int) (pre.length : Int)) (rd v (acc + onesL suf), true) := by
  intro suf
  induction suf with
  | nil =>
    intro pre acc h ha hp
    subst h
    refine Ev.step (fun k => impl_ReadSymmetric.l0.eq_2 ..) (ev_neg (not_lt_end _) (ev_pos ha (ev_pos ?_ (ev_const ?_))))
    · simp only [List.append_nil] at hv; omega
    · rw [onesL, Int.add_zero]
  | cons y suf ih =>
    intro pre acc h ha hp
    subst h
    have hy := hb y (by simp)
    have hm : (pre ++ y :: suf).length ≤ maxLen := by simp only [maxLen]; omega
    have hpl : pre.length ≤ 1000 := by have h2 := hl; simp only [List.length_append, List.length_cons] at h2; omega
    have w1 : wrap64 (acc + y) = acc + y := wrap_id (by omega) (by omega)
    refine Ev.step (fun k => impl_ReadSymmetric.l0.eq_2 ..) (ev_pos (lt_mid _ _ _) (ev_pos (by clear w1; omega) (ev_pos (lt_mid _ _ _) ?_)))
    rw [rd_mid, w1, next_mid _ _ _ hm]
    have := ih (pre ++ [y]) (acc + y) (assoc_mid _ _ _) (by clear w1; omega) (by clear w1; simp; omega)
    rw [onesL, ← Int.add_assoc]
    exact this
theorem implRS (v l : List Int) (hv : v.length ≤ 1048576) (hl : l.length ≤ 1048576) : Ev (fun k => impl_ReadSymmetric.f k v l) (resRS v l) := by
  have hvm : v.length ≤ maxLen := by simp only [maxLen]; omega
  have hlm : l.length ≤ maxLen := by simp only [maxLen]; omega
  have no : ¬ RsOk v l → Ev (fun k => impl_ReadSymmetric.j0 k v l true) (resRS v l) := fun h => by
    unfold resRS
    rw [if_neg h]
    exact Ev.step (fun k => impl_ReadSymmetric.j0.eq_2 ..) (ev_pos rfl (ev_const rfl))
  unfold impl_ReadSymmetric.f
  by_cases h1 : (l.length : Int) < 1
  · exact ev_pos h1 (no (fun h => by have := h.1.1.1; omega))
  refine ev_neg h1 ?_
  by_cases h2 : (l.length : Int) > 4
  · exact ev_pos h2 (no (fun h => by have := h.1.1.2; omega))
  refine ev_neg h2 (ev_bind (areBits l hlm) ?_)
  by_cases h3 : ∀ x ∈ l, 0 ≤ x ∧ x ≤ 1
  case neg =>
    rw [decide_eq_false h3]
    exact ev_neg (by simp) (no (fun h => h3 h.1.2))
  rw [decide_eq_true h3]
  refine ev_pos rfl ?_
  rw [wrap_len l hl]
  by_cases h4 : (v.length : Int) = (l.length : Int) + 1
  case neg => exact ev_neg h4 (no (fun h => h4 h.2.1))
  refine ev_pos h4 (ev_bind (areBits v hvm) ?_)
  by_cases h5 : ∀ x ∈ v, 0 ≤ x ∧ x ≤ 1
  case neg =>
    rw [decide_eq_false h5]
    exact no (fun h => h5 h.2.2)
  rw [decide_eq_true h5]
  unfold resRS
  rw [if_pos ⟨⟨⟨by omega, by omega⟩, h3⟩, h4, h5⟩]
  refine Ev.step (fun k => impl_ReadSymmetric.j0.eq_2 ..) (ev_neg (by simp) ?_)
  have := implSum v l (by omega) h3 h4 l [] 0 rfl (Int.le_refl _) (by simp)
  rw [Int.zero_add] at this
  exact this
theorem lawReadSymmetric : fnExactReadSymmetric.Pure := by
  intro l0 l1 _ _
  refine Ev.rounds (r := true) ?_
  unfold laws_FnExactReadSymmetric.f
  by_cases h0 : (l0.length : Int) > 1048576
  · exact ev_pos h0 (ev_const rfl)
  refine ev_neg h0 ?_
  by_cases h1 : (l1.length : Int) > 1048576
  · exact ev_pos h1 (ev_const rfl)
  refine ev_neg h1 ?_
  have hv : l0.length ≤ 1048576 := by omega
  have hl : l1.length ≤ 1048576 := by omega
  have hvm : l0.length ≤ maxLen := by simp only [maxLen]; omega
  have hlm : l1.length ≤ maxLen := by simp only [maxLen]; omega
  refine ev_bind (toInts l0 hv) (ev_bind (toInts l1 hl) (ev_bind (specRS l0 l1 hv hl) (ev_bind (toInts l0 hv) (ev_bind (toInts l1 hl) (ev_bind (implRS l0 l1 hv hl) (ev_pos rfl ?_))))))
  rw [show ((resRS l0 l1).2 != (resRS l0 l1).2) = false by simp]
  refine Ev.step (fun k => laws_FnExactReadSymmetric.j0.eq_2 ..) (ev_neg (by simp) ?_)
  exact ev_bind (toInts l0 hv) (ev_bind (eqInts l0 hvm) (ev_pos rfl (ev_bind (toInts l1 hl) (ev_bind (eqInts l1 hlm) (ev_pos rfl (ev_const rfl))))))
end Go.Proofs.Ytnccomklpfbcpaa.A
namespace Go.Proofs.Ytnccomklpfbcpaa
/-- The row. -/
theorem fnExactReadSymmetric_holds : Rows.FnExactReadSymmetricSaid := fnExactReadSymmetric.over A.lawReadSymmetric
end Go.Proofs.Ytnccomklpfbcpaa
end
