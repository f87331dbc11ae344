/- The walk of FnExactProgramText. -/
import Derived.Test.YtbcphkblieeemaaDoorPx1
import Derived.Test.YtbcphkblieeemaaDoorPx3
import Derived.Test.YtbcphkblieeemaaDoorPx10
import Derived.Test.YtbcphkblieeemaaDoorPx28
import Derived.Test.YtbcphkblieeemaaDoorPx5
namespace Go.Proofs.YtbcphkblieeemaaDoor.P
open Go.RowKit Go.Proofs.YtbcphkblieeemaaDoorW.PrintWords Go.Proofs.YtbcphkblieeemaaDoorW.PrintLast Go.Proofs.YtbcphkblieeemaaDoorW.PrintMore
set_option linter.unusedVariables false
set_option linter.unusedSimpArgs false
theorem NamesIn.below {w w' : World} (h : NamesIn w) (hb : Below w.heap.size w w') : NamesIn w' :=
  ⟨(hb.cell (World.block_lt_of_cell? w _ h.c0)).trans h.c0, (hb.cell (World.block_lt_of_cell? w _ h.c1)).trans h.c1, (hb.cell (World.block_lt_of_cell? w _ h.c2)).trans h.c2, (hb.cell (World.block_lt_of_cell? w _ h.c3)).trans h.c3⟩
set_option maxHeartbeats 4000000 in
set_option maxRecDepth 100000 in
theorem ProgramText_small (A : Option Addr) (c : Nat) (l : List S54) (n z : Int) (w : World) (hC : Kd.C k54 w A l.length l) (hc : l.length ≤ c)
    (e_sz : laws_szInstructionS.f l 1048576 = some z) (hz : z < 0) :
    Calls Tryd.prog 4 #[.slice A l.length c, .int .i64 n] w fun e w' => e = .returned (.bool true) ∧ Below w.heap.size w w' := by
  have HC := Aside0.mk hC
  have Hc := Aside0.mk hc
  have Hsz := Aside0.mk e_sz
  have hzb : decide (z < 0) = true := decide_eq_true hz
  have HB := Aside0.mk (Below.refl w.heap.size w)
  clear hC hc e_sz hz
  go_enter Tryd.func4, Tryd.ntmps4
  go_wp2_with fail
  refine (laws_szInstructionS.calls _ _ _ _ _ _ (Kd.C_below HC.out (by repeat (first | with_reducible exact HB.out | with_reducible exact Below.refl _ _ | with_reducible apply below_alloc | with_reducible apply pw_below_drewN | with_reducible apply below_drew1))) Hc.out Hsz.out).mono ?_
  rintro e _ ⟨rfl, ⟨nz, rfl⟩⟩
  go_wp2_with fail
  go_ret
  exact ⟨rfl, (by repeat (first | with_reducible exact HB.out | with_reducible exact Below.refl _ _ | with_reducible apply below_alloc | with_reducible apply pw_below_drewN | with_reducible apply below_drew1))⟩
set_option maxHeartbeats 4000000 in
set_option maxRecDepth 100000 in
theorem ProgramText_walk (k : Nat) (A : Option Addr) (c : Nat) (l : List S54) (n z : Int) (l' : List S52) (s : ByteArray) (b : Bool) (w : World) (hN : NamesIn w) (hC : Kd.C k54 w A l.length l) (hc : l.length ≤ c)
    (e_sz : laws_szInstructionS.f l 1048576 = some z) (hz : 0 ≤ z) (e_to : laws_toInstructionS.f k l = some l') (e_spec : spec_ProgramText.f k l' n = some (s, b)) (e_impl : impl_ProgramText.f k l' n = some (s, b)) (e_eq : laws_eqInstructionS.f k l' l' = some true) :
    Calls Tryd.prog 4 #[.slice A l.length c, .int .i64 n] w fun e w' => e = .returned (.bool true) ∧ Below w.heap.size w w' := by
  have HC := Aside0.mk hC
  have Hc := Aside0.mk hc
  have HN := Aside0.mk hN
  have Hsz := Aside0.mk e_sz
  have Hto := Aside0.mk e_to
  have Hsp := Aside0.mk e_spec
  have Him := Aside0.mk e_impl
  have Heq := Aside0.mk e_eq
  have hzb : decide (z < 0) = false := decide_eq_false (by omega)
  have hs1 : (b != b) = false := by simp
  have HB := Aside0.mk (Below.refl w.heap.size w)
  clear hC hc hN e_sz e_to e_spec e_impl e_eq hz
  go_enter Tryd.func4, Tryd.ntmps4
  go_wp2_with fail
  refine (laws_szInstructionS.calls _ _ _ _ _ _ (Kd.C_below HC.out (by repeat (first | with_reducible exact HB.out | with_reducible exact Below.refl _ _ | with_reducible apply below_alloc | with_reducible apply pw_below_drewN | with_reducible apply below_drew1))) Hc.out Hsz.out).mono ?_
  rintro e _ ⟨rfl, ⟨nz, rfl⟩⟩
  go_wp2_with fail
  refine (laws_toInstructionS.calls k _ _ _ _ _ (Kd.C_below HC.out (by repeat (first | with_reducible exact HB.out | with_reducible exact Below.refl _ _ | with_reducible apply below_alloc | with_reducible apply pw_below_drewN | with_reducible apply below_drew1))) Hc.out Hto.out).mono ?_
  rintro e u1 ⟨v1, rfl, hf, hb⟩
  have n0 : Aside0 (Below w.heap.size w u1) := Aside0.mk (below_step (by repeat (first | with_reducible exact HB.out | with_reducible exact Below.refl _ _ | with_reducible apply below_alloc | with_reducible apply pw_below_drewN | with_reducible apply below_drew1)) hb)
  clear HB
  have HB := n0
  clear n0 hb
  obtain ⟨A1, c1, e1⟩ := Kd.R_slice hf
  subst e1
  have F1 := Aside0.mk hf
  clear hf
  go_wp2_with fail
  refine (spec_ProgramText.calls k _ _ _ _ _ _ _ (Kd.C_below (Kd.R_reads' F1.out).2.2 (by repeat (first | with_reducible exact Below.refl _ _ | with_reducible apply below_alloc | with_reducible apply pw_below_drewN | with_reducible apply below_drew1))) (Kd.R_reads' F1.out).2.1 Hsp.out).mono ?_
  rintro e w2 ⟨rfl, hb⟩
  have n0 : Aside0 (Below w.heap.size w w2) := Aside0.mk (below_step (by repeat (first | with_reducible exact HB.out | with_reducible exact Below.refl _ _ | with_reducible apply below_alloc | with_reducible apply pw_below_drewN | with_reducible apply below_drew1)) hb)
  clear HB
  have HB := n0
  clear n0 hb
  go_wp2_with fail
  refine (laws_toInstructionS.calls k _ _ _ _ _ (Kd.C_below HC.out (by repeat (first | with_reducible exact HB.out | with_reducible exact Below.refl _ _ | with_reducible apply below_alloc | with_reducible apply pw_below_drewN | with_reducible apply below_drew1))) Hc.out Hto.out).mono ?_
  rintro e u2 ⟨v2, rfl, hf, hb⟩
  have n0 : Aside0 (Below w.heap.size w u2) := Aside0.mk (below_step (by repeat (first | with_reducible exact HB.out | with_reducible exact Below.refl _ _ | with_reducible apply below_alloc | with_reducible apply pw_below_drewN | with_reducible apply below_drew1)) hb)
  clear HB
  have HB := n0
  clear n0 hb
  obtain ⟨A2, c2, e2⟩ := Kd.R_slice hf
  subst e2
  have F2 := Aside0.mk hf
  clear hf
  go_wp2_with fail
  refine (impl_ProgramText.calls k _ _ _ _ _ _ _ (HN.out.below (by repeat (first | with_reducible exact HB.out | with_reducible exact Below.refl _ _ | with_reducible apply below_alloc | with_reducible apply pw_below_drewN | with_reducible apply below_drew1))) (Kd.C_below (Kd.R_reads' F2.out).2.2 (by repeat (first | with_reducible exact Below.refl _ _ | with_reducible apply below_alloc | with_reducible apply pw_below_drewN | with_reducible apply below_drew1))) (Kd.R_reads' F2.out).2.1 Him.out).mono ?_
  rintro e w4 ⟨rfl, hb⟩
  have n0 : Aside0 (Below w.heap.size w w4) := Aside0.mk (below_step (by repeat (first | with_reducible exact HB.out | with_reducible exact Below.refl _ _ | with_reducible apply below_alloc | with_reducible apply pw_below_drewN | with_reducible apply below_drew1)) hb)
  replace F2 := Aside0.mk (Kd.R_below F2.out (below_step (by repeat (first | with_reducible exact Below.refl _ _ | with_reducible apply below_alloc | with_reducible apply pw_below_drewN | with_reducible apply below_drew1)) hb))
  clear HB
  have HB := n0
  clear n0 hb
  go_wp2_with fail
  refine (laws_toInstructionS.calls k _ _ _ _ _ (Kd.C_below HC.out (by repeat (first | with_reducible exact HB.out | with_reducible exact Below.refl _ _ | with_reducible apply below_alloc | with_reducible apply pw_below_drewN | with_reducible apply below_drew1))) Hc.out Hto.out).mono ?_
  rintro e u3 ⟨v3, rfl, hf, hb⟩
  have n0 : Aside0 (Below w.heap.size w u3) := Aside0.mk (below_step (by repeat (first | with_reducible exact HB.out | with_reducible exact Below.refl _ _ | with_reducible apply below_alloc | with_reducible apply pw_below_drewN | with_reducible apply below_drew1)) hb)
  replace F2 := Aside0.mk (Kd.R_below F2.out (below_step (by repeat (first | with_reducible exact Below.refl _ _ | with_reducible apply below_alloc | with_reducible apply pw_below_drewN | with_reducible apply below_drew1)) hb))
  clear HB
  have HB := n0
  clear n0 hb
  obtain ⟨A3, c3, e3⟩ := Kd.R_slice hf
  subst e3
  have F3 := Aside0.mk hf
  clear hf
  go_wp2_with fail
  refine (laws_eqInstructionS.calls k _ _ _ _ _ _ _ _ (Kd.C_below (Kd.R_reads' F2.out).2.2 (by repeat (first | with_reducible exact Below.refl _ _ | with_reducible apply below_alloc | with_reducible apply pw_below_drewN | with_reducible apply below_drew1))) (Kd.R_reads' F2.out).2.1 (Kd.C_below (Kd.R_reads' F3.out).2.2 (by repeat (first | with_reducible exact Below.refl _ _ | with_reducible apply below_alloc | with_reducible apply pw_below_drewN | with_reducible apply below_drew1))) (Kd.R_reads' F3.out).2.1 Heq.out).mono ?_
  rintro e w6 ⟨rfl, hb⟩
  have n0 : Aside0 (Below w.heap.size w w6) := Aside0.mk (below_step (by repeat (first | with_reducible exact HB.out | with_reducible exact Below.refl _ _ | with_reducible apply below_alloc | with_reducible apply pw_below_drewN | with_reducible apply below_drew1)) hb)
  clear HB
  have HB := n0
  clear n0 hb
  go_wp2_with fail
  go_ret
  exact ⟨rfl, (by repeat (first | with_reducible exact HB.out | with_reducible exact Below.refl _ _ | with_reducible apply below_alloc | with_reducible apply pw_below_drewN | with_reducible apply below_drew1))⟩
end Go.Proofs.YtbcphkblieeemaaDoor.P
