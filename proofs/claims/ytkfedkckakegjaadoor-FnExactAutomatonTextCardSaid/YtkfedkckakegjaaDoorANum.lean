/- The reference's numerals below a hundred. -/
import Derived.Test.YtkfedkckakegjaaDoorPx9
import Derived.Test.YtkfedkckakegjaaDoorAAut
namespace Go.Proofs.YtkfedkckakegjaaDoor.A
open Go.RowKit YtkfedkckakegjaaDoorW.PrintWords YtkfedkckakegjaaDoorW.PrintLast YtkfedkckakegjaaDoorW.PrintMore P T
set_option linter.unusedVariables false
set_option linter.unusedSimpArgs false

theorem dig (m : Nat) (h : m < 10) : strOfNums [(wrap64 (48 + (m : Int))) % 256] = ⟨#[UInt8.ofNat (48 + m)]⟩ := by
 rw [wrap_id (by omega) (by omega), show ((48 : Int) + (m : Int)) % 256 = ((48 + m : Nat) : Int) by omega]
 simp only [strOfNums, List.map_cons, List.map_nil, Int.toNat_natCast]
theorem l1Num (x : Int) (h0 : 0 ≤ x) (h1 : x < 100) : Ev (fun k => spec_l1Num.f k x) (itB x) := by
 obtain ⟨m, rfl⟩ := Int.eq_ofNat_of_zero_le h0
 by_cases h : m < 10
 ·refine Ev.step (fun k => spec_l1Num.f.eq_2 ..) (ev_pos (by omega) (ev_const ?_))
  rw [dig m h, itB_one m h]
 ·refine Ev.step (fun k => spec_l1Num.f.eq_2 ..) (ev_neg (by omega) ?_)
  have e1 : wrap64 (Int.tdiv (m : Int) 10) = ((m / 10 : Nat) : Int) := by
   rw [show Int.tdiv (m : Int) 10 = ((m / 10 : Nat) : Int) from rfl, wrap_id (by omega) (by omega)]
  have e2 : Int.tmod (m : Int) 10 = ((m % 10 : Nat) : Int) := rfl
  rw [e1, e2]
  refine ev_bind (Ev.step (fun k => spec_l1Num.f.eq_2 ..) (ev_pos (by omega) (ev_const rfl))) ?_
  rw [dig (m / 10) (by omega)]
  refine ev_bindc rfl (ev_pos ?_ (ev_const ?_))
  ·rw [dig (m % 10) (by omega)]; simp [ByteArray.size]
  ·rw [dig (m % 10) (by omega), itB_two m h (by omega)]; rfl
end Go.Proofs.YtkfedkckakegjaaDoor.A
