/- A set of pairs of whole numbers that the call holds as a map[[2]int]bool of its own: made, asked, filled. -/
import Derived.Maps.OwnOps
import Derived.Maps.OwnSet
import Derived.Maps.Views
import Derived.WideKeyPair
import Derived.Test.YtadhbepoblllhaaZFnExactFirstWord0
namespace Go.Proofs.Ytadhbepoblllhaa.Own
open Go.RowKit Go.Maps Go.WideMaps Go.Proofs.YtadhbepoblllhaaW.PrintWords Go.Proofs.YtadhbepoblllhaaW.PrintLast Go.Proofs.YtadhbepoblllhaaW.PrintMore
set_option linter.unusedVariables false
/-- How a pair stands in the map. -/
def klP (p : Int × Int) : Lit := .string (keyBytes [.int .i64 p.1, .int .i64 p.2])
def WfP (p : Int × Int) : Prop := (Lit.int .i64 p.1).wf = true ∧ (Lit.int .i64 p.2).wf = true
theorem wfP_small {a b : Int} (ha : 0 ≤ a) (ha' : a ≤ 1000000) (hb : 0 ≤ b) (hb' : b ≤ 1000000) : WfP (a, b) := by
  constructor <;> (simp [Lit.wf, IntKind.min, IntKind.max, IntKind.signed, IntKind.bits]; omega)
/-- The block b is a map that has the pairs of S, each with the value true. -/
def PSet (P : Program) (k e : TypeId) (w : World) (b n : Nat) (S : List (Int × Int)) : Prop :=
  ∃ D : DataW Unit, w.ownsMap P k (plainElem P e) b n D ∧ ∀ p, WfP p → D.atKey (klP p) (.lit (.bool false)) = .lit (.bool (decide (p ∈ S)))
section
variable {P : Program} {k e t i : TypeId} {w w1 : World} {b n : Nat} {S : List (Int × Int)}
theorem PSet.made (w : World) (P : Program) (k e : TypeId) : PSet P k e (w.alloc (.map #[] 0)) w.heap.size 0 [] :=
  ⟨.map [], World.ownsMap_made w P k _, fun p _ => by simp [DataW.atKey]⟩
theorem PSet.lt (h : PSet P k e w b n S) : b < w.heap.size := by obtain ⟨D, h, _⟩ := h; exact h.lt
theorem PSet.kept {row : Option Nat} (h : PSet P k e w b n S) (hg : w.grownBy w1 row) (hne : some b ≠ row) : PSet P k e w1 b n S := by
  obtain ⟨D, h, hD⟩ := h; exact ⟨D, h.kept hg hne, hD⟩
theorem PSet.below (h : PSet P k e w b n S) (hb : Below w.heap.size w w1) : PSet P k e w1 b n S := h.kept (grown_of_below hb none) (by simp)
theorem PSet.setCell (h : PSet P k e w b n S) {a : Addr} (ha : b ≠ a.block) (u : Value) : PSet P k e (w.setCell a u) b n S := by
  obtain ⟨D, h, hD⟩ := h; exact ⟨D, h.setCell ha u, hD⟩
theorem PSet.is_map (h : PSet P k e w b n S) : ∃ es clock, w.heap[b]? = some (.map es clock) := by
  obtain ⟨D, ⟨es, clock, hb, _⟩, _⟩ := h; exact ⟨es, clock, hb⟩
/-- A row of cells lies elsewhere. -/
theorem PSet.ne_row {α : Type} {d : Kd α} {q base : Nat} {ok : Nat → Prop} {v : Value} {xs : List α} (h : PSet P k e w b n S) (hr : d.R q w base ok v xs) : some b ≠ v.ownBlock := by
  intro e_
  obtain ⟨es, clock, hb⟩ := h.is_map
  obtain ⟨c, hc⟩ := Kd.R_typed hr b e_.symm
  rw [hb] at hc
  cases hc
theorem klP_key (A : ArrKey P k i 2) (hi : P.underlying i = some (.int .i64)) (hsz : ∃ m, P.types.size = m + 1) {p : Int × Int} (hp : WfP p) : keyOf P k (.agg #[.int .i64 p.1, .int .i64 p.2]) = some (klP p) :=
  keyOf_pair A hi hsz hp.1 hp.2
theorem klP_inj (A : ArrKey P k i 2) (hi : P.underlying i = some (.int .i64)) (hsz : ∃ m, P.types.size = m + 1) {p q : Int × Int} (hp : WfP p) (hq : WfP q) (h : klP p = klP q) : p = q := by
  have h1 := klP_key A hi hsz hp
  have h2 := klP_key A hi hsz hq
  rw [← h] at h2
  have := A.law.inj h1 h2
  simp only [Value.agg.injEq] at this
  obtain ⟨a, b⟩ := p
  obtain ⟨c, d⟩ := q
  have h3 := congrArg Array.toList this
  simp at h3
  simp [h3]
theorem bool_inv (he : P.underlying e = some .bool) {v : Value} {z : DataW Unit × List MemPlace} (h : plainElem P e v = some z) : ∃ x, v = .bool x ∧ z = (.lit (.bool x), []) := by
  unfold plainElem at h
  rw [he] at h
  cases v <;> simp at h
  exact ⟨_, rfl, h.symm⟩
/-- The set is asked. -/
theorem PSet.look (h : PSet P k e w b n S) (A : ArrKey P k i 2) (hi : P.underlying i = some (.int .i64)) (hsz : ∃ m, P.types.size = m + 1) (ht : P.underlying t = some (.map k e)) (he : P.underlying e = some .bool) (hz : (zeroValue e).run P w = .ok (.bool false) w) {p : Int × Int} (hp : WfP p) :
    (Instr.lookup t (.map (some b)) (.agg #[.int .i64 p.1, .int .i64 p.2]) false).run P w = .ok (.bool (decide (p ∈ S))) w := by
  obtain ⟨D, h, hD⟩ := h
  obtain ⟨v, ps, hrun, hv⟩ := h.lookup (Keyed.of_law A.law) ht hz (plainElem_bool he false) (klP_key A hi hsz hp)
  obtain ⟨x, rfl, hx⟩ := bool_inv he hv
  simp only [Prod.mk.injEq] at hx
  rw [hD p hp] at hx
  have : decide (p ∈ S) = x := by have := hx.1; simpa using this
  rw [hrun, this]
/-- A pair is put into the set. -/
theorem PSet.put (h : PSet P k e w b n S) (A : ArrKey P k i 2) (hi : P.underlying i = some (.int .i64)) (hsz : ∃ m, P.types.size = m + 1) (ht : P.underlying t = some (.map k e)) (he : P.underlying e = some .bool) (hn : n < maxLen) {p : Int × Int} (hp : WfP p) :
    ∃ w', (Instr.mapUpdate t (.map (some b)) (.agg #[.int .i64 p.1, .int .i64 p.2]) (.bool true)).run P w = .ok () w' ∧ PSet P k e w' b (n + 1) (S ++ [p]) ∧ w.grownBy w' (some b) := by
  obtain ⟨D, h, hD⟩ := h
  obtain ⟨w', hrun, ho, hg⟩ := h.update (Keyed.of_law A.law) ht hn (klP_key A hi hsz hp) (plainElem_bool he true)
  refine ⟨w', hrun, ⟨_, ho, fun q hq => ?_⟩, hg⟩
  by_cases e1 : q = p
  · subst e1
    rw [atKey_put_same h.isMap ((Keyed.of_law A.law).key (klP_key A hi hsz hq))]
    simp
  · rw [atKey_put_other (fun e2 => e1 (klP_inj A hi hsz hq hp e2)), hD q hq]
    simp [e1]
/-- .. at the operation, for the walk: the pair is told by the operand's value. -/
theorem PSet.look_at {ops : Array Oper} {rest : List Oper} {o : Oper} {a : Act} {Q : Exit → Act → World → Prop} (hg : o.guard = none) (m x : Operand) (hop : o.op = Op.lookup t m x false)
    (hm : a.eval m = .map (some b)) (h : PSet P k e w b n S) (A : ArrKey P k i 2) (hi : P.underlying i = some (.int .i64)) (hsz : ∃ m, P.types.size = m + 1) (ht : P.underlying t = some (.map k e)) (he : P.underlying e = some .bool) (hz : (zeroValue e).run P w = .ok (.bool false) w) (p : Int × Int) (hp : WfP p)
    (hx : a.eval x = .agg #[.int .i64 p.1, .int .i64 p.2]) (hK : wpList P ops Q rest (a.put o.dst (.bool (decide (p ∈ S)))) w) : wpList P ops Q (o :: rest) a w := by
  refine wpList_plain hg fun K' hK' => ?_
  have hrun := h.look A hi hsz ht he hz hp
  unfold Oper.wp
  simp [execOp, hop, hm, hx, hrun, Result.andThen]
  exact hK' _ _ hK
theorem PSet.put_at {ops : Array Oper} {rest : List Oper} {o : Oper} {a : Act} {Q : Exit → Act → World → Prop} (hg : o.guard = none) (m x v : Operand) (hop : o.op = Op.mapUpdate t m x v)
    (hm : a.eval m = .map (some b)) (h : PSet P k e w b n S) (A : ArrKey P k i 2) (hi : P.underlying i = some (.int .i64)) (hsz : ∃ m, P.types.size = m + 1) (ht : P.underlying t = some (.map k e)) (he : P.underlying e = some .bool) (hn : n < maxLen) (p : Int × Int) (hp : WfP p)
    (hx : a.eval x = .agg #[.int .i64 p.1, .int .i64 p.2]) (hv : a.eval v = .bool true) (hK : ∀ w', PSet P k e w' b (n + 1) (S ++ [p]) → w.grownBy w' (some b) → wpList P ops Q rest (a.put o.dst undef) w') : wpList P ops Q (o :: rest) a w := by
  refine wpList_plain hg fun K' hK' => ?_
  obtain ⟨w', hrun, r1, r2⟩ := h.put A hi hsz ht he hn hp
  unfold Oper.wp
  simp [execOp, hop, hm, hx, hv, hrun, Result.andThen]
  exact hK' _ _ (hK w' r1 r2)
theorem PSet.insert_at {ops : Array Oper} {rest : List Oper} {o : Oper} {a : Act} {Q : Exit → Act → World → Prop} (hg : o.guard = none) (m x v : Operand) (hop : o.op = Op.insert t m x v)
    (hm : a.eval m = .map (some b)) (h : PSet P k e w b n S) (A : ArrKey P k i 2) (hi : P.underlying i = some (.int .i64)) (hsz : ∃ m, P.types.size = m + 1) (ht : P.underlying t = some (.map k e)) (he : P.underlying e = some .bool) (hn : n < maxLen) (p : Int × Int) (hp : WfP p)
    (hx : a.eval x = .agg #[.int .i64 p.1, .int .i64 p.2]) (hv : a.eval v = .bool true) (hK : ∀ w', PSet P k e w' b (n + 1) (S ++ [p]) → w.grownBy w' (some b) → wpList P ops Q rest (a.put o.dst undef) w') : wpList P ops Q (o :: rest) a w := by
  refine wpList_plain hg fun K' hK' => ?_
  obtain ⟨w', hrun, r1, r2⟩ := h.put A hi hsz ht he hn hp
  unfold Oper.wp
  simp [execOp, hop, hm, hx, hv, hrun, Result.andThen]
  exact hK' _ _ (hK w' r1 r2)
theorem PSet.make_at {ops : Array Oper} {rest : List Oper} {o : Oper} {a : Act} {Q : Exit → Act → World → Prop} (hg : o.guard = none) (hop : o.op = Op.makeMap t none)
    (hK : ∀ g, g = w.heap.size → ∀ w', PSet P k e w' g 0 [] → Below w.heap.size w w' → wpList P ops Q rest (a.put o.dst (.map (some g))) w') : wpList P ops Q (o :: rest) a w := by
  refine wpList_plain hg fun K' hK' => ?_
  have hrun : (Instr.makeMap t none).run P w = .ok (.map (some w.heap.size)) (w.alloc (.map #[] 0)) := rfl
  unfold Oper.wp
  simp [execOp, hop, hrun, Result.andThen]
  exact hK' _ _ (hK _ rfl _ (PSet.made w P k e) (below_alloc (Below.refl _ _) _))
theorem gate_insert {ops : Array Oper} {rest : List Oper} {o : Oper} {a : Act} {Q : Exit → Act → World → Prop} {m x v : Operand} (_hop : o.op = Op.insert t m x v) (h : wpList P ops Q (o :: rest) a w) : wpList P ops Q (o :: rest) a w := h
end
end Go.Proofs.Ytadhbepoblllhaa.Own
