/- The walks of slices.Sort, pdqsort (for at most 12 numbers) and bits.Len (of at most 12). -/
import Derived.Test.YtkfedkckakegjaaYFnExactReachedStatesPx59
import Derived.Test.YtkfedkckakegjaaYFnExactReachedStatesASort
import Derived.Test.YtkfedkckakegjaaOwnW
namespace Go.Proofs.Ytkfedkckakegjaa.P
open Go.RowKit Go.Proofs.YtkfedkckakegjaaW.PrintWords Go.Proofs.YtkfedkckakegjaaW.PrintLast Go.Proofs.YtkfedkckakegjaaW.PrintMore Go.Proofs.Ytkfedkckakegjaa.Own Go.Proofs.Ytkfedkckakegjaa.A
set_option linter.unusedVariables false
set_option linter.unusedSimpArgs false
/-- Some number is returned, and nothing is done. -/
def SomeInt (w : World) (e : Ending) (w' : World) : Prop := ∃ n : Int, e = .returned (.int .i64 n) ∧ w = w'
set_option maxHeartbeats 4000000 in
set_option maxRecDepth 100000 in
theorem len64_own (x : Nat) (hx : x ≤ 12) (w : World) : Calls Try.prog 80 #[.int .u64 x] w (SomeInt w) := by
  have h : x = 0 ∨ x = 1 ∨ x = 2 ∨ x = 3 ∨ x = 4 ∨ x = 5 ∨ x = 6 ∨ x = 7 ∨ x = 8 ∨ x = 9 ∨ x = 10 ∨ x = 11 ∨ x = 12 := by omega
  clear hx
  rcases h with rfl | rfl | rfl | rfl | rfl | rfl | rfl | rfl | rfl | rfl | rfl | rfl | rfl
  all_goals
    go_enter Try.func80, Try.ntmps80
    go_wp2
    go_ret
    exact ⟨_, rfl, rfl⟩
set_option maxHeartbeats 4000000 in
set_option maxRecDepth 100000 in
theorem len_own (x : Nat) (hx : x ≤ 12) (w : World) : Calls Try.prog 68 #[.int .u64 x] w (SomeInt w) := by
  go_enter Try.func68, Try.ntmps68
  go_wp2_with fail
  refine (len64_own x hx _).mono ?_
  rintro e w' ⟨n, rfl, rfl⟩
  go_wp2_with fail
  go_ret
  exact ⟨_, rfl, rfl⟩
set_option maxHeartbeats 4000000 in
set_option maxRecDepth 100000 in
theorem pdq_own (k : Nat) (P : Nat → Prop) (u : Value) (l r : List Int) (lim : Int) (w0 w : World) (hB : Below w0.heap.size w0 w) (hR : Kd.R (Kd.int .i64) 3 w w0.heap.size P u l) (hl : l.length ≤ 12) (h : slices_insertionSortOrdered_int.f k l 0 (l.length : Int) = some r) :
    Calls Try.prog 67 #[u, .int .i64 0, .int .i64 l.length, .int .i64 lim] w fun e w' => e = .returned (.tuple #[]) ∧ Kd.R (Kd.int .i64) 3 w' w0.heap.size P u r ∧ Below w0.heap.size w0 w' ∧ Kept w w' P := by
  have HB := Aside0.mk hB
  have HR := Aside0.mk hR
  have H := Aside0.mk h
  clear hB hR h
  go_enter Try.func67, Try.ntmps67
  go_wp2_with fail
  go_loopw [1, 2] (fun v1 v2 wr => v1 = .int .i64 0 ∧ v2 = .int .i64 l.length ∧ Aside0 (wr = w)) (fun _ _ _ => 0)
  case atStart => exact ⟨rfl, rfl, ⟨rfl⟩⟩
  case round =>
    obtain ⟨rfl, rfl, hrw⟩ := hrel
    obtain rfl := hrw.out
    go_wp2_with fail
    refine (slices_insertionSortOrdered_int.calls k P u l 0 (l.length : Int) r w0 _ HB.out HR.out H.out).mono ?_
    rintro e w' ⟨rfl, hR2, hB2, hK⟩
    have HR2 : Aside0 (Kd.R (Kd.int .i64) 3 w' w0.heap.size P u r) := ⟨⟨HR.out.1, hR2.2⟩⟩
    have HB2 := Aside0.mk hB2
    have HK2 := Aside0.mk hK
    clear hR2 hB2 hK
    go_wp2_with fail
    first | go_end0 | ((try simp only [Exit.inBlock, Exit.then]); refine bodyPost_ret (results_none rfl _ _ _) rfl ?_)
    exact ⟨rfl, HR2.out, HB2.out, HK2.out⟩
set_option maxHeartbeats 4000000 in
set_option maxRecDepth 100000 in
theorem sort_own (k : Nat) (P : Nat → Prop) (u : Value) (l r : List Int) (w0 w : World) (hB : Below w0.heap.size w0 w) (hR : Kd.R (Kd.int .i64) 3 w w0.heap.size P u l) (hl : l.length ≤ 12) (h : slices_insertionSortOrdered_int.f k l 0 (l.length : Int) = some r) :
    Calls Try.prog 62 #[u] w fun e w' => e = .returned (.tuple #[]) ∧ Kd.R (Kd.int .i64) 3 w' w0.heap.size P u r ∧ Below w0.heap.size w0 w' ∧ Kept w w' P := by
  have HB := Aside0.mk hB
  have HR := Aside0.mk hR
  have H := Aside0.mk h
  obtain ⟨A0, c0, e0⟩ := Kd.R_slice hR
  subst e0
  have hu : IntKind.u64.wrap (l.length : Int) = (l.length : Int) := by
    have : l.length = 0 ∨ l.length = 1 ∨ l.length = 2 ∨ l.length = 3 ∨ l.length = 4 ∨ l.length = 5 ∨ l.length = 6 ∨ l.length = 7 ∨ l.length = 8 ∨ l.length = 9 ∨ l.length = 10 ∨ l.length = 11 ∨ l.length = 12 := by omega
    rcases this with e | e | e | e | e | e | e | e | e | e | e | e | e <;> rw [e] <;> decide
  clear hB hR h
  go_enter Try.func62, Try.ntmps62
  go_wp2_with fail
  refine (len_own l.length hl _).mono ?_
  rintro e w' ⟨n, rfl, rfl⟩
  go_wp2_with fail
  refine (pdq_own k P _ l r n w0 _ HB.out HR.out hl H.out).mono ?_
  rintro e w2 ⟨rfl, hR2, hB2, hK⟩
  have HR2 := Aside0.mk hR2
  have HB2 := Aside0.mk hB2
  have HK2 := Aside0.mk hK
  clear hR2 hB2 hK
  go_wp2_with fail
  first | go_end0 | ((try simp only [Exit.inBlock, Exit.then]); refine bodyPost_ret (results_none rfl _ _ _) rfl ?_)
  exact ⟨rfl, HR2.out, HB2.out, HK2.out⟩
end Go.Proofs.Ytkfedkckakegjaa.P
