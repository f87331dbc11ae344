/- The walk of laws.toIntSS: it copies a slice of slices of numbers, row by row. -/
import Derived.Test.YtkfedkckakegjaaDoorPx12
import Derived.Test.YtkfedkckakegjaaDoorOwnW
namespace Go.Proofs.YtkfedkckakegjaaDoor.P
open Go.RowKit YtkfedkckakegjaaDoorW.PrintWords YtkfedkckakegjaaDoorW.PrintLast YtkfedkckakegjaaDoorW.PrintMore Own
set_option linter.unusedVariables false
/-! ### laws_toIntSS: function 21 -/
/-- The copy, where each row is copied in k rounds. -/
def laws_toIntSS.f (k : Nat) (l0 : List (List Int)) : Option (List (List Int)) := if l0.length ≤ 11728124029610 ∧ ∀ x ∈ l0, laws_toIntS.f k x = some x then some l0 else none
theorem laws_toIntSS.mono : ∀ a0 k, LeO (laws_toIntSS.f k a0) (laws_toIntSS.f (k + 1) a0) := by
 intro a0 k r h
 unfold laws_toIntSS.f at h ⊢
 by_cases c : a0.length ≤ 11728124029610 ∧ ∀ x ∈ a0, laws_toIntS.f k x = some x
 ·rw [if_pos c] at h
  rw [if_pos ⟨c.1, fun x hx => laws_toIntS.mono x k _ (c.2 x hx)⟩]
  exact h
 ·rw [if_neg c] at h; simp at h
theorem take_rep (l : List (List Int)) (k : Nat) (h : k < l.length) : (l.take k ++ List.replicate (l.length - k) []).set k (rd_L1 l k) = l.take (k + 1) ++ List.replicate (l.length - (k + 1)) [] := by
 have e : l.length - k = (l.length - (k + 1)) + 1 := by omega
 rw [e, List.replicate_succ, List.set_append_right _ _ (by simp; omega)]
 simp only [List.length_take, Nat.min_eq_left (Nat.le_of_lt h), Nat.sub_self, List.set_cons_zero]
 rw [List.take_succ_eq_append_getElem h, List.append_assoc, List.singleton_append]
 congr 2
 simp [rd_L1, h]
set_option maxHeartbeats 2000000 in
set_option maxRecDepth 100000 in
theorem laws_toIntSS.calls (k : Nat) (A0 : Option Addr) (c0 : Nat) (l0 : List (List Int)) (r : List (List Int)) (w : World) (hr0 : Kd.C (Kd.slice 3 (Kd.int .i64)) w A0 l0.length l0) (hc0 : l0.length ≤ c0) (h : laws_toIntSS.f k l0 = some r) :
  Calls Tryd.prog 21 #[.slice A0 l0.length c0] w fun e w' => ∃ v0_ : Value, e = .returned (v0_) ∧ Kd.S (Kd.slice 3 (Kd.int .i64)) 23 w' w.heap.size (fun _ => True) v0_ r ∧ Below w.heap.size w w' := by
 unfold laws_toIntSS.f at h
 by_cases c : l0.length ≤ 11728124029610 ∧ ∀ x ∈ l0, laws_toIntS.f k x = some x
 ·rw [if_pos c] at h
  obtain rfl := Option.some.inj h
  clear h
  obtain ⟨hlen, hrow⟩ := c
  have HR := Aside0.mk hr0
  have HC := Aside0.mk hc0
  have HW := Aside0.mk hrow
  clear hr0 hc0 hrow
  go_enter Tryd.func21, Tryd.ntmps21
  go_wp2_with ((with_reducible refine gate_dst (N := 7) rfl ?_); refine Kd.S_make (Kd.slice 3 (Kd.int .i64)) _ 23 rfl (N := 7) rfl 22 _ _ rfl (l0.length : Int) rfl rfl Tryd.underlying22 (.slice none 0 0) 24 info23 rfl (by decide) (by omega) [] (ok := fun _ => True) (okp := fun _ => True) ⟨_, rfl, Kd.R_nil _ _ _ _ _⟩ (fun _ hk => hk) trivial (by omega) (by omega) (Below.refl _ _) (Nat.le_refl _) ?_; intro v1 w1 hS hb _ _; have HS := Aside0.mk hS; have HB := Aside0.mk hb; clear hS hb)
  go_loopw [4] (fun i wr => ∃ j : Nat, j ≤ l0.length ∧ i = .int .i64 j ∧ Aside0 (Kd.S (Kd.slice 3 (Kd.int .i64)) 23 wr w.heap.size (fun _ => True) v1 (l0.take j ++ List.replicate (l0.length - j) [])) ∧ Aside0 (Below w.heap.size w wr)) (fun i _ => l0.length - (intOf i).toNat)
  case atStart => exact ⟨0, Nat.zero_le _, rfl, ⟨by simpa using HS.out⟩, HB⟩
  case round =>
   clear HS HB
   obtain ⟨j, hj, rfl, HS, HB⟩ := hrel
   by_cases hlt : j < l0.length
   ·have hsl : (l0.take j ++ List.replicate (l0.length - j) []).length = l0.length := by simp; omega
    obtain ⟨ad, A1, c1, rfl, hx, hl1, hC1⟩ := at_L1 HR.out (j : Int) (by omega) (by omega)
    have hx' : wr.cell? (ad.add j) = some (.slice A1 (rd_L1 l0 (j : Int)).length c1) := (HB.out.cell (World.block_lt_of_cell? w _ hx)).trans hx
    have hmem : rd_L1 l0 (j : Int) ∈ l0 := by simp [rd_L1, hlt]
    have hcall := Aside0.mk (HW.out _ hmem)
    have HC1 := Aside0.mk (Kd.C_below hC1 HB.out)
    have Hl1 := Aside0.mk hl1
    obtain ⟨g, cp, hv, hg1, hg2, _⟩ := Kd.S_form HS.out (by omega)
    rw [hsl] at hv
    subst hv
    have hgb : w.heap.size ≤ g := hg1
    clear hC1 hmem hl1 hg1 hg2
    go_wp2_with fail
    refine (laws_toIntS.calls k A1 c1 (rd_L1 l0 (j : Int)) (rd_L1 l0 (j : Int)) _ HC1.out Hl1.out hcall.out).mono ?_
    rintro e w2 ⟨u, rfl, hR, hb⟩
    obtain ⟨hst, ⟨x, hcell⟩, hfr⟩ := S_store (d := Kd.int .i64) HS.out HB.out.size hb hR (j : Int) (by omega) (by omega)
    have HB2 := Aside0.mk (HB.out.trans (hb.mono HB.out.size))
    have hcell' : w2.cell? ⟨g, j, none⟩ = some x := by simpa using hcell
    have hfr' : w2.frozen? ⟨g, j, none⟩ = false := by simpa using hfr
    have HS2 : Aside0 (Kd.S (Kd.slice 3 (Kd.int .i64)) 23 (w2.setCell ⟨g, j, none⟩ u) w.heap.size (fun _ => True) (.slice (some ⟨g, 0, none⟩) l0.length cp) (l0.take (j + 1) ++ List.replicate (l0.length - (j + 1)) [])) := by
     have := hst.1
     rw [Int.toNat_natCast, take_rep l0 j hlt] at this
     exact ⟨this⟩
    obtain ⟨Au, cu, rfl⟩ := Kd.R_slice hR
    clear hst hcell hfr hR hb HS HB hsl hx
    go_wp2_with fail
    go_roundw
    case rel => exact ⟨j + 1, by omega, by go_num, HS2, ⟨below_set HB2.out hgb⟩⟩
    case measure => simp [intOf]; omega
   ·obtain rfl : j = l0.length := by omega
    go_wp2_with fail
    go_ret
    exact ⟨_, rfl, by simpa using HS.out, HB.out⟩
 ·rw [if_neg c] at h; simp at h
end Go.Proofs.YtkfedkckakegjaaDoor.P
