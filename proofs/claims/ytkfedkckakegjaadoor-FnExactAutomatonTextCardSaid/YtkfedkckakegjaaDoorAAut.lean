/- The text of an automaton, in plain words: both programs' ways of joining it are the same. -/
import Derived.Test.YtkfedkckakegjaaDoorAAu
import Derived.Test.YtkfedkckakegjaaDoorVLib
import Derived.Lib.Join
namespace Go.Proofs.YtkfedkckakegjaaDoor.A
open Go.RowKit YtkfedkckakegjaaDoorW.PrintWords YtkfedkckakegjaaDoorW.PrintLast YtkfedkckakegjaaDoorW.PrintMore P T
set_option linter.unusedVariables false
set_option linter.unusedSimpArgs false

theorem bapp (a b c : ByteArray) : (a ++ b) ++ c = a ++ (b ++ c) := by
 apply ByteArray.ext
 simp only [ByteArray.data_append, Array.append_assoc]
/-- The mark of a state. -/
def mkB (F : List Int) (s : Int) : ByteArray := if s ∈ F then ⟨#[43]⟩ else ⟨#[45]⟩
def spB : ByteArray := ⟨#[32]⟩
def nlB : ByteArray := ⟨#[10]⟩
/-- The reference's inner loop. -/
def inGo : List Int → ByteArray → ByteArray
 | [], o => o
 | x :: r, o => inGo r (o ++ (spB ++ itB x))
def auGoS (F : List Int) : List (List Int) → Int → ByteArray → ByteArray
 | [], _, o => o
 | row :: rest, s, o => auGoS F rest (s + 1) (inGo row (o ++ mkB F s) ++ nlB)
def auGoI (F : List Int) : List (List Int) → Int → ByteArray → ByteArray
 | [], _, o => o
 | row :: rest, s, o => auGoI F rest (s + 1) (o ++ (((mkB F s ++ spB) ++ joinB row) ++ nlB))
theorem inGo_app : ∀ (r : List Int) (a b : ByteArray), inGo r (a ++ b) = a ++ inGo r b := by
 intro r
 induction r with
 | nil => intro a b; rfl
 | cons x r ih => intro a b; show inGo r ((a ++ b) ++ (spB ++ itB x)) = a ++ inGo r (b ++ (spB ++ itB x)); rw [bapp, ih]
theorem joinB_cons (x y : Int) (r : List Int) : joinB (x :: y :: r) = itB x ++ (spB ++ joinB (y :: r)) := by
 apply ByteArray.ext
 simp only [ByteArray.data_append]
 apply Array.ext'
 simp [joinB, spB, Lib.join_cons, Lib.joinTail]
theorem inGo_join : ∀ (r : List Int) (x : Int), inGo (x :: r) ⟨#[]⟩ = spB ++ joinB (x :: r) := by
 intro r
 induction r with
 | nil =>
  intro x
  show (⟨#[]⟩ : ByteArray) ++ (spB ++ itB x) = spB ++ joinB [x]
  apply ByteArray.ext
  simp only [ByteArray.data_append]
  apply Array.ext'
  simp [joinB, Lib.join_one]
 | cons y r ih =>
  intro x
  rw [joinB_cons, ← ih y]
  show inGo (y :: r) ((⟨#[]⟩ : ByteArray) ++ (spB ++ itB x)) = _
  have e : (⟨#[]⟩ : ByteArray) ++ (spB ++ itB x) = (spB ++ itB x) ++ ⟨#[]⟩ := by
   apply ByteArray.ext
   simp only [ByteArray.data_append]
   apply Array.ext'
   simp
  rw [e, inGo_app, bapp]
theorem auGo_eq (F : List Int) : ∀ (N : List (List Int)) (s : Int) (o : ByteArray), (∀ r ∈ N, r ≠ []) → auGoS F N s o = auGoI F N s o := by
 intro N
 induction N with
 | nil => intro s o _; rfl
 | cons row N ih =>
  intro s o h
  show auGoS F N (s + 1) (inGo row (o ++ mkB F s) ++ nlB) = auGoI F N (s + 1) (o ++ (((mkB F s ++ spB) ++ joinB row) ++ nlB))
  rw [ih _ _ (fun r hr => h r (List.mem_cons_of_mem _ hr))]
  congr 1
  have e : inGo row (o ++ mkB F s) = (o ++ mkB F s) ++ inGo row ⟨#[]⟩ := by
   rw [← inGo_app]
   congr 1
   apply ByteArray.ext
   simp only [ByteArray.data_append]
   apply Array.ext'
   simp
  obtain ⟨x, r, rfl⟩ : ∃ x r, row = x :: r := by
   cases row with
   | nil => exact absurd rfl (h [] List.mem_cons_self)
   | cons x r => exact ⟨x, r, rfl⟩
  rw [e, inGo_join]
  simp only [bapp]
theorem itB_one (m : Nat) (h : m < 10) : itB (m : Int) = ⟨#[UInt8.ofNat (48 + m)]⟩ := by
 unfold itB; rw [Int.toNat_natCast, Lib.decDigits, dif_pos h]
theorem itB_two (m : Nat) (h : ¬ m < 10) (h2 : m < 100) : itB (m : Int) = ⟨#[UInt8.ofNat (48 + m / 10), UInt8.ofNat (48 + m % 10)]⟩ := by
 unfold itB; rw [Int.toNat_natCast, Lib.decDigits, dif_neg h, Lib.decDigits, dif_pos (by omega)]; rfl
theorem itB_size (x : Int) (h0 : 0 ≤ x) (h1 : x < 100) : (itB x).size ≤ 2 := by
 obtain ⟨m, rfl⟩ := Int.eq_ofNat_of_zero_le h0
 by_cases h : m < 10
 ·rw [itB_one m h]; simp [ByteArray.size]
 ·rw [itB_two m h (by omega)]; simp [ByteArray.size]
theorem lens_small : ∀ (l : List Int), (∀ x ∈ l, 0 ≤ x ∧ x < 100) → Lib.lens ((l.map itB).map (·.data.toList)) ≤ 2 * l.length := by
 intro l
 induction l with
 | nil => intro _; simp [Lib.lens]
 | cons x l ih =>
  intro h
  have h1 := ih (fun y hy => h y (List.mem_cons_of_mem _ hy))
  have h2 := itB_size x (h x List.mem_cons_self).1 (h x List.mem_cons_self).2
  have h3 : (itB x).data.toList.length = (itB x).size := Array.length_toList
  simp only [Lib.lens, List.map_cons, List.sum_cons, List.length_cons] at h1 ⊢
  omega
theorem join_small (l : List Int) (hl : 0 < l.length) (h : ∀ x ∈ l, 0 ≤ x ∧ x < 100) : (Lib.join ((l.map itB).map (·.data.toList)) [32]).length ≤ 3 * l.length := by
 cases l with
 | nil => simp at hl
 | cons x r =>
  have h1 := lens_small (x :: r) h
  rw [List.map_cons, List.map_cons, Lib.join_length]
  simp only [List.map_cons, List.length_map, List.length_cons, List.length_nil] at h1 ⊢
  omega
theorem joinB_size (l : List Int) (hl : 0 < l.length) (h : ∀ x ∈ l, 0 ≤ x ∧ x < 100) : (joinB l).size ≤ 3 * l.length := by
 have := join_small l hl h
 unfold joinB ByteArray.size
 simpa using this
theorem AuOk.row {L : Int} {N : List (List Int)} {F : List Int} (h : AuOk L N F) : ∀ r ∈ N, 0 < r.length ∧ r.length ≤ 3 ∧ ∀ x ∈ r, 0 ≤ x ∧ x < 100 := fun r hr => by
 obtain ⟨h1, h2⟩ := h.2.2.1 r hr
 have h3 := h.1
 have h4 := h.2.1
 exact ⟨by omega, by omega, fun x hx => by have := h2 x hx; omega⟩
def resTx (L : Int) (N : List (List Int)) (F : List Int) : ByteArray × Bool := if AuOk L N F then (auGoI F N 0 ⟨#[]⟩, true) else (⟨#[]⟩, false)
end Go.Proofs.YtkfedkckakegjaaDoor.A
