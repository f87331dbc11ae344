/- The walk of impl.besideOf (printed by gen_near.py). -/
import Derived.Test.YtcilbmbgdcepgaaYFnExactAddsWithVGg
import Derived.Test.YtcilbmbgdcepgaaOwnW
namespace Go.Proofs.Ytcilbmbgdcepgaa.P
open Go.RowKit YtcilbmbgdcepgaaW.PrintWords YtcilbmbgdcepgaaW.PrintLast YtcilbmbgdcepgaaW.PrintMore Own A
set_option linter.unusedVariables false
set_option linter.unusedSimpArgs false
structure impl_besideOf_S (w W : World) (bv : Array Value) (v : Value) (l : List Nat) : Prop where
 bA : W.heap[w.heap.size]? = some (.cells bv 24 (0, 0))
 ro : Kd.R (Kd.int .i64) 3 W w.heap.size (fun _ => True) v (natI l)
 be : Below w.heap.size w W
/-! ### impl_besideOf: function 98 -/
theorem impl_besideOf_opt (p : Prop) [Decidable p] (x : Nat) : (if p then [x] else ([] : List Nat)).length ≤ 1 := by by_cases h : p <;> simp [h]
def impl_besideOf_fit (R C i : Int) : Prop := (1 ≤ R ∧ R ≤ 10) ∧ (1 ≤ C ∧ C ≤ 9) ∧ 0 ≤ i ∧ i < R * C
instance (R C i : Int) : Decidable (impl_besideOf_fit R C i) := by unfold impl_besideOf_fit; infer_instance
def impl_besideOf.f (k : Nat) (a0_0 : Int) (a0_1 : Int) (l0_2 : List (S71)) (a1 : Int) : Option (List Int) := if impl_besideOf_fit a0_0 a0_1 a1 then some (natI (nearL a0_0.toNat a0_1.toNat a1.toNat)) else none
theorem impl_besideOf.mono : ∀ a0 a1 a2 a3 k, LeO (impl_besideOf.f k a0 a1 a2 a3) (impl_besideOf.f (k + 1) a0 a1 a2 a3) := fun _ _ _ _ _ _ h => h
theorem impl_besideOf_near (R cn : Nat) (l : List S71) (hR : R ≤ 10) (hc1 : 1 ≤ cn) (hc9 : cn ≤ 9) (i : Nat) (hi : i < R * cn) : impl_besideOf.f 5 (R : Int) (cn : Int) l (i : Int) = some (natI (nearL R cn i)) := by
 unfold impl_besideOf.f
 have h0 : 1 ≤ R := Nat.pos_of_ne_zero (fun e => by subst e; simp at hi)
 have h1 : (i : Int) < (R : Int) * (cn : Int) := by rw [← Int.natCast_mul]; exact Int.ofNat_lt.2 hi
 rw [if_pos ⟨⟨by omega, by omega⟩, ⟨by omega, by omega⟩, by omega, h1⟩, Int.toNat_natCast, Int.toNat_natCast, Int.toNat_natCast]
set_option maxHeartbeats 8000000 in
set_option maxRecDepth 100000 in
theorem impl_besideOf.calls (k : Nat) (a0_0 : Int) (a0_1 : Int) (A0_2 : Option Addr) (c0_2 : Nat) (l0_2 : List (S71)) (a1 : Int) (r : List Int) (w : World) (hr0_2 : Kd.C k71 w A0_2 l0_2.length l0_2) (hc0_2 : l0_2.length ≤ c0_2) (h : impl_besideOf.f k a0_0 a0_1 l0_2 a1 = some r) :
  Calls Try.prog 98 #[.agg #[.int .i64 a0_0, .int .i64 a0_1, .slice A0_2 l0_2.length c0_2], .int .i64 a1] w fun e w' => ∃ v0_ : Value, e = .returned (v0_) ∧ Kd.R (Kd.int .i64) 3 w' w.heap.size (fun _ => True) v0_ r ∧ Below w.heap.size w w' := by
 have hu24 := Try.underlying24
 have hu39 := Try.underlying39
 unfold impl_besideOf.f at h
 by_cases hk : impl_besideOf_fit a0_0 a0_1 a1
 case neg => rw [if_neg hk] at h; simp at h
 rw [if_pos hk] at h
 simp only [Option.some.injEq] at h
 subst h
 obtain ⟨⟨hR1, hR10⟩, ⟨hc1, hc9⟩, hi0, hi1⟩ := hk
 obtain ⟨R, rfl⟩ : ∃ m : Nat, a0_0 = (m : Int) := ⟨a0_0.toNat, by omega⟩
 obtain ⟨cn, rfl⟩ : ∃ m : Nat, a0_1 = (m : Int) := ⟨a0_1.toNat, by omega⟩
 obtain ⟨i, rfl⟩ : ∃ m : Nat, a1 = (m : Int) := ⟨a1.toNat, by omega⟩
 rw [Int.toNat_natCast, Int.toNat_natCast, Int.toNat_natCast]
 have hi : i < R * cn := by rw [← Int.natCast_mul] at hi1; exact Int.ofNat_lt.1 hi1
 have h90 : R * cn ≤ 10 * 9 := Nat.mul_le_mul (by omega) (by omega)
 obtain ⟨q, hq⟩ : ∃ q, q = i / cn := ⟨_, rfl⟩
 obtain ⟨m, hm⟩ : ∃ m, m = i % cn := ⟨_, rfl⟩
 have hdm := Nat.div_add_mod i cn
 have hml : m < cn := by rw [hm]; exact Nat.mod_lt _ (by omega)
 have hql : q < R := by rw [hq]; exact Nat.div_lt_of_lt_mul (by rw [Nat.mul_comm]; exact hi)
 have e1 : Int.tdiv (i : Int) (cn : Int) = (q : Int) := by rw [hq]; rfl
 have e2 : Int.tmod (i : Int) (cn : Int) = (m : Int) := by rw [hm]; rfl
 have hle : 0 < q → cn ≤ i := fun h_ => by have h1_ : cn * 1 ≤ cn * (i / cn) := Nat.mul_le_mul_left _ (by rw [← hq]; exact h_); rw [Nat.mul_one] at h1_; exact Nat.le_trans h1_ (Nat.le_trans (Nat.le_add_right _ _) (Nat.le_of_eq hdm))
 have hlm : 0 < m → 1 ≤ i := fun h_ => Nat.le_trans h_ (Nat.le_trans (by rw [hm]; exact Nat.le_add_left _ _) (Nat.le_of_eq hdm))
 have HLE := Aside0.mk hle
 have HLM := Aside0.mk hlm
 have HN : Aside0 (nearL R cn i = (if 0 < q then [i - cn] else []) ++ (if 0 < m then [i - 1] else []) ++ (if m + 1 < cn then [i + 1] else []) ++ (if q + 1 < R then [i + cn] else [])) := ⟨by unfold nearL; rw [← hq, ← hm]⟩
 have hz : ¬ (cn = 0) := by omega
 have hb_ : i ≤ 100 ∧ R ≤ 10 ∧ cn ≤ 9 := ⟨by omega, by omega, by omega⟩
 have HB_ := Aside0.mk hb_
 have ew1 : IntKind.i64.wrap (q : Int) = (q : Int) := IntWalk.i64_in _ (by omega)
 have ev1 := (i64_w _).symm.trans ew1
 clear hb_
 have BA := Aside0.mk (blk_new w (.cells #[.int .i64 (R : Int), .int .i64 (cn : Int), .slice A0_2 l0_2.length c0_2] 24))
 have HB0 := Aside0.mk (below_alloc (Below.refl w.heap.size w) (.cells #[.int .i64 (R : Int), .int .i64 (cn : Int), .slice A0_2 l0_2.length c0_2] 24))
 have x1 : (w.alloc (.cells #[.int .i64 (R : Int), .int .i64 (cn : Int), .slice A0_2 l0_2.length c0_2] 24)).cell? ⟨w.heap.size, 1, none⟩ = some (.int .i64 (cn : Int)) := (blk_cell BA.out 1).trans rfl
 have HML := Aside0.mk hml
 have HQL := Aside0.mk hql
 clear hq hm hdm hle hlm hi hi1 hi0 hR1 hR10 hc1 hc9 h90 hr0_2 hc0_2 hml hql
 obtain ⟨Q, hQ⟩ : ∃ Q, Q = nearL R cn i := ⟨_, rfl⟩
 rw [← hQ]
 have HQ := Aside0.mk (hQ.trans HN.out)
 clear HN hQ
 go_enter Try.func98, Try.ntmps98
 go_wp2_with (first
  | ((with_reducible refine gate_dst (N := 8) rfl ?_); refine Kd.R_lit (Kd.int .i64) (w0 := w) w.heap.size 3 ?hg (N := 8) ?hd (xs := ([] : List Int)) (inner := []) (ok := fun _ => True) (okp := fun _ => False) ?hr (Reps.none _ _) (fun _ hk => hk.elim) trivial HB0.out HB0.out.size (by simp) ?_; (case hd => rfl); (case hg => rfl); (case hr => first | (go_simp; done) | (go_simp; rfl)); intro v5 w5 hR hb hg_ _; have HS0 : Aside0 (impl_besideOf_S w w5 #[.int .i64 (R : Int), .int .i64 (cn : Int), .slice A0_2 l0_2.length c0_2] v5 []) := ⟨⟨blk_below BA.out (below_of_grown hg_), hR, hb⟩⟩; clear hR hb hg_ HB0 BA x1; have x1 : w5.cell? ⟨w.heap.size, 1, none⟩ = some (.int .i64 (cn : Int)) := (blk_cell HS0.out.bA 1).trans rfl)
  | fail)
 refine start_ (n := 10) (S := fun w' => w'.cell? ⟨w.heap.size, 1, none⟩ = some (.int .i64 (cn : Int))) (ds := []) #[false,false,false,false,false,false,false,false,false,false] (by kernel_rfl) rfl rfl x1 (fun hHeld => ?_)
 refine Own.anew_ (wN := w5) Own.bel hHeld (fun wy hzb hHeld => ?_)
 replace HS0 := Aside0.mk (show impl_besideOf_S w wy #[.int .i64 (R : Int), .int .i64 (cn : Int), .slice A0_2 l0_2.length c0_2] _ [] from ⟨blk_below HS0.out.bA hzb, Kd.R_below HS0.out.ro hzb, below_step HS0.out.be hzb⟩)
 clear hzb x1
 refine Own.pu_ (i := 0) (N := some 9) #[true,false,false,false,false,false,false,false,false,false] ?_
 refine Own.pu_ (i := 1) (N := some 10) #[true,true,false,false,false,false,false,false,false,false] ?_
 refine Own.tk_ (i := 2) (N := some 11) #[true,true,true,false,false,false,false,false,false,false] hHeld ?_
 refine Own.pu_ (i := 3) (N := some 12) #[true,true,true,true,false,false,false,false,false,false] ?_
 refine Own.pu_ (i := 4) (N := some 13) #[true,true,true,true,true,false,false,false,false,false] ?_
 refine Own.pu_ (i := 5) (N := some 14) #[true,true,true,true,true,true,false,false,false,false] ?_
 refine Own.tk_ (i := 6) (N := some 15) #[true,true,true,true,true,true,true,false,false,false] hHeld ?_
 refine Own.pu_ (i := 7) (N := some 16) #[true,true,true,true,true,true,true,true,false,false] ?_
 refine Own.pu_ (i := 8) (N := some 6) #[true,true,true,true,true,true,true,true,true,false] ?_
 refine Own.pu_ (i := 9) (N := some 7) #[true,true,true,true,true,true,true,true,true,true] ?_
 refine done_ (by kernel_rfl) ?_
 clear hHeld
 obtain ⟨acc, hacc⟩ : ∃ a_, a_ = ([] : List Nat) := ⟨_, rfl⟩
 have HA := Aside0.mk hacc
 rw [← hacc] at HS0
 clear hacc
 have hal : acc.length ≤ 0 := by rw [HA.out]; exact Nat.le_refl _
 generalize wy = wr at HS0 ⊢
 obtain ⟨Ar, cr, er⟩ := Kd.R_slice HS0.out.ro
 rw [natI_len] at er
 subst er
 have x0 : wr.cell? ⟨w.heap.size, 0, none⟩ = some (.int .i64 (R : Int)) := (blk_cell HS0.out.bA 0).trans rfl
 have x1 : wr.cell? ⟨w.heap.size, 1, none⟩ = some (.int .i64 (cn : Int)) := (blk_cell HS0.out.bA 1).trans rfl
 go_upto_if 18 with fail
 go_cut [5, 18] (fun v7 v17 wc => Aside0 (impl_besideOf_S w wc #[.int .i64 (R : Int), .int .i64 (cn : Int), .slice A0_2 l0_2.length c0_2] v7 (acc ++ (if 0 < q then [i - cn] else []))))
 case first =>
  by_cases hp : 0 < q
  ·have hd : 0 < q := hp
   have hle := HLE.out hp
   obtain ⟨u, hu⟩ : ∃ u : Nat, u = i - cn := ⟨_, rfl⟩
   have ewx : IntKind.i64.wrap ((i : Int) - (cn : Int)) = (u : Int) := (IntWalk.i64_in _ (by have := HB_.out; clear ew1 ev1; omega)).trans (by clear ew1 ev1; omega)
   have evx := (i64_w _).symm.trans ewx
   have HU := Aside0.mk hu
   have HP := Aside0.mk hp
   clear hle
   clear hu hp
   go_wp2_with (first
    | ((with_reducible refine gate_builtin (b := .append) (xs := #[.tmp 19, .tmp 24]) rfl ?_); at_builtin; refine Kd.R_append (Kd.int .i64) (w0 := w) w.heap.size rfl (.tmp 19) (.tmp 24) 39 3 (.int .i64 0) 8 rfl Try.underlying39 info3 rfl (by decide) (by decide) (.slice Ar acc.length cr) (natI acc) (u : Int) [.int .i64 (u : Int)] (fun _ => True) (fun _ => False) rfl rfl ?aP (fun _ hk => hk.elim) (fun _ _ => trivial) ?aO ?aB ?aS ?aL ?_; (case aP => exact rfl); (case aO => exact HS0.out.ro); (case aB => exact HS0.out.be); (case aS => exact HS0.out.be.size); (case aL => rw [natI_len]; exact Nat.le_trans (Nat.mul_le_mul_right 8 (Nat.succ_le_succ hal)) (by decide)); intro v9 w9 hS hb hg_ _; have HS9 : Aside0 (impl_besideOf_S w w9 #[.int .i64 (R : Int), .int .i64 (cn : Int), .slice A0_2 l0_2.length c0_2] v9 (acc ++ [u])) := ⟨⟨blk_grown HS0.out.bA hg_ (Kd.R_ne HS0.out.ro HS0.out.bA (by decide)), by rw [natI_snoc]; exact hS, hb⟩⟩; clear hS hb hg_)
    | fail)
   go_meet
   case rel => exact ⟨by rw [if_pos HP.out, ← HU.out]; exact HS9.out⟩
  ·have hd : ¬ (0 < q) := hp
   have HP := Aside0.mk hp
   clear hp
   go_wp2
   go_meet
   case rel => exact ⟨by rw [if_neg HP.out, List.append_nil]; exact HS0.out⟩
 case rest =>
  clear HS0 x0 x1
  have HS1 := hcut
  clear hcut
  obtain ⟨acc2, hacc2⟩ : ∃ a_, a_ = acc ++ (if 0 < q then [i - cn] else []) := ⟨_, rfl⟩
  rw [← hacc2] at HS1
  have hal2 : acc2.length ≤ 1 := by rw [hacc2, List.length_append]; exact Nat.add_le_add hal (impl_besideOf_opt _ _)
  replace HA := Aside0.mk (hacc2.trans (by rw [HA.out]))
  clear hacc2 hal
  have hal := hal2
  clear hal2
  have HS0 := HS1
  clear HS1
  generalize wc = wr at HS0 ⊢
  skip
  generalize hac_ : acc2 = acc at HA hal HS0 ⊢
  clear hac_
  obtain ⟨Ar, cr, er⟩ := Kd.R_slice HS0.out.ro
  rw [natI_len] at er
  subst er
  have x0 : wr.cell? ⟨w.heap.size, 0, none⟩ = some (.int .i64 (R : Int)) := (blk_cell HS0.out.bA 0).trans rfl
  have x1 : wr.cell? ⟨w.heap.size, 1, none⟩ = some (.int .i64 (cn : Int)) := (blk_cell HS0.out.bA 1).trans rfl
  go_upto_if 27 with fail
  go_cut [5, 27] (fun v7 v17 wc => Aside0 (impl_besideOf_S w wc #[.int .i64 (R : Int), .int .i64 (cn : Int), .slice A0_2 l0_2.length c0_2] v7 (acc ++ (if 0 < m then [i - 1] else []))))
  case first =>
   by_cases hp : 0 < m
   ·have hd : 0 < m := hp
    have hle := HLM.out hp
    obtain ⟨u, hu⟩ : ∃ u : Nat, u = i - 1 := ⟨_, rfl⟩
    have ewx : IntKind.i64.wrap ((i : Int) - 1) = (u : Int) := (IntWalk.i64_in _ (by have := HB_.out; clear ew1 ev1; omega)).trans (by clear ew1 ev1; omega)
    have evx := (i64_w _).symm.trans ewx
    have HU := Aside0.mk hu
    have HP := Aside0.mk hp
    clear hle
    clear hu hp
    go_wp2_with (first
     | ((with_reducible refine gate_builtin (b := .append) (xs := #[.tmp 28, .tmp 31]) rfl ?_); at_builtin; refine Kd.R_append (Kd.int .i64) (w0 := w) w.heap.size rfl (.tmp 28) (.tmp 31) 39 3 (.int .i64 0) 8 rfl Try.underlying39 info3 rfl (by decide) (by decide) (.slice Ar acc.length cr) (natI acc) (u : Int) [.int .i64 (u : Int)] (fun _ => True) (fun _ => False) rfl rfl ?aP (fun _ hk => hk.elim) (fun _ _ => trivial) ?aO ?aB ?aS ?aL ?_; (case aP => exact rfl); (case aO => exact HS0.out.ro); (case aB => exact HS0.out.be); (case aS => exact HS0.out.be.size); (case aL => rw [natI_len]; exact Nat.le_trans (Nat.mul_le_mul_right 8 (Nat.succ_le_succ hal)) (by decide)); intro v9 w9 hS hb hg_ _; have HS9 : Aside0 (impl_besideOf_S w w9 #[.int .i64 (R : Int), .int .i64 (cn : Int), .slice A0_2 l0_2.length c0_2] v9 (acc ++ [u])) := ⟨⟨blk_grown HS0.out.bA hg_ (Kd.R_ne HS0.out.ro HS0.out.bA (by decide)), by rw [natI_snoc]; exact hS, hb⟩⟩; clear hS hb hg_)
     | fail)
    go_meet
    case rel => exact ⟨by rw [if_pos HP.out, ← HU.out]; exact HS9.out⟩
   ·have hd : ¬ (0 < m) := hp
    have HP := Aside0.mk hp
    clear hp
    go_wp2
    go_meet
    case rel => exact ⟨by rw [if_neg HP.out, List.append_nil]; exact HS0.out⟩
  case rest =>
   clear HS0 x0 x1
   have HS1 := hcut
   clear hcut
   obtain ⟨acc2, hacc2⟩ : ∃ a_, a_ = acc ++ (if 0 < m then [i - 1] else []) := ⟨_, rfl⟩
   rw [← hacc2] at HS1
   have hal2 : acc2.length ≤ 2 := by rw [hacc2, List.length_append]; exact Nat.add_le_add hal (impl_besideOf_opt _ _)
   replace HA := Aside0.mk (hacc2.trans (by rw [HA.out]))
   clear hacc2 hal
   have hal := hal2
   clear hal2
   have HS0 := HS1
   clear HS1
   generalize wc = wr at HS0 ⊢
   clear acc
   generalize hac_ : acc2 = acc at HA hal HS0 ⊢
   clear hac_
   obtain ⟨Ar, cr, er⟩ := Kd.R_slice HS0.out.ro
   rw [natI_len] at er
   subst er
   have x0 : wr.cell? ⟨w.heap.size, 0, none⟩ = some (.int .i64 (R : Int)) := (blk_cell HS0.out.bA 0).trans rfl
   have x1 : wr.cell? ⟨w.heap.size, 1, none⟩ = some (.int .i64 (cn : Int)) := (blk_cell HS0.out.bA 1).trans rfl
   obtain ⟨m1, hm1⟩ : ∃ m1 : Nat, m1 = m + 1 := ⟨_, rfl⟩
   have ew2 : IntKind.i64.wrap ((m : Int) + 1) = (m1 : Int) := (IntWalk.i64_in _ (by have := HML.out; have := HB_.out; clear ew1 ev1; omega)).trans (by rw [hm1]; rfl)
   have ev2 := (i64_w _).symm.trans ew2
   have HM1 := Aside0.mk hm1
   clear hm1
   go_upto_if 37 with fail
   go_cut [5, 37] (fun v7 v17 wc => Aside0 (impl_besideOf_S w wc #[.int .i64 (R : Int), .int .i64 (cn : Int), .slice A0_2 l0_2.length c0_2] v7 (acc ++ (if m + 1 < cn then [i + 1] else []))))
   case first =>
    by_cases hp : m + 1 < cn
    ·have hd : m1 < cn := by rw [HM1.out]; exact hp
     obtain ⟨u, hu⟩ : ∃ u : Nat, u = i + 1 := ⟨_, rfl⟩
     have ewx : IntKind.i64.wrap ((i : Int) + 1) = (u : Int) := (IntWalk.i64_in _ (by have := HB_.out; clear ew1 ev1 ew2 ev2; omega)).trans (by clear ew1 ev1 ew2 ev2; omega)
     have evx := (i64_w _).symm.trans ewx
     have HU := Aside0.mk hu
     have HP := Aside0.mk hp
     clear hu hp
     go_wp2_with (first
      | ((with_reducible refine gate_builtin (b := .append) (xs := #[.tmp 38, .tmp 41]) rfl ?_); at_builtin; refine Kd.R_append (Kd.int .i64) (w0 := w) w.heap.size rfl (.tmp 38) (.tmp 41) 39 3 (.int .i64 0) 8 rfl Try.underlying39 info3 rfl (by decide) (by decide) (.slice Ar acc.length cr) (natI acc) (u : Int) [.int .i64 (u : Int)] (fun _ => True) (fun _ => False) rfl rfl ?aP (fun _ hk => hk.elim) (fun _ _ => trivial) ?aO ?aB ?aS ?aL ?_; (case aP => exact rfl); (case aO => exact HS0.out.ro); (case aB => exact HS0.out.be); (case aS => exact HS0.out.be.size); (case aL => rw [natI_len]; exact Nat.le_trans (Nat.mul_le_mul_right 8 (Nat.succ_le_succ hal)) (by decide)); intro v9 w9 hS hb hg_ _; have HS9 : Aside0 (impl_besideOf_S w w9 #[.int .i64 (R : Int), .int .i64 (cn : Int), .slice A0_2 l0_2.length c0_2] v9 (acc ++ [u])) := ⟨⟨blk_grown HS0.out.bA hg_ (Kd.R_ne HS0.out.ro HS0.out.bA (by decide)), by rw [natI_snoc]; exact hS, hb⟩⟩; clear hS hb hg_)
      | fail)
     go_meet
     case rel => exact ⟨by rw [if_pos HP.out, ← HU.out]; exact HS9.out⟩
    ·have hd : ¬ (m1 < cn) := by rw [HM1.out]; exact hp
     have HP := Aside0.mk hp
     clear hp
     go_wp2
     go_meet
     case rel => exact ⟨by rw [if_neg HP.out, List.append_nil]; exact HS0.out⟩
   case rest =>
    clear HS0 x0 x1
    have HS1 := hcut
    clear hcut
    obtain ⟨acc2, hacc2⟩ : ∃ a_, a_ = acc ++ (if m + 1 < cn then [i + 1] else []) := ⟨_, rfl⟩
    rw [← hacc2] at HS1
    have hal2 : acc2.length ≤ 3 := by rw [hacc2, List.length_append]; exact Nat.add_le_add hal (impl_besideOf_opt _ _)
    replace HA := Aside0.mk (hacc2.trans (by rw [HA.out]))
    clear hacc2 hal
    have hal := hal2
    clear hal2
    have HS0 := HS1
    clear HS1
    generalize wc = wr at HS0 ⊢
    clear acc
    generalize hac_ : acc2 = acc at HA hal HS0 ⊢
    clear hac_
    obtain ⟨Ar, cr, er⟩ := Kd.R_slice HS0.out.ro
    rw [natI_len] at er
    subst er
    have x0 : wr.cell? ⟨w.heap.size, 0, none⟩ = some (.int .i64 (R : Int)) := (blk_cell HS0.out.bA 0).trans rfl
    have x1 : wr.cell? ⟨w.heap.size, 1, none⟩ = some (.int .i64 (cn : Int)) := (blk_cell HS0.out.bA 1).trans rfl
    obtain ⟨q1, hq1⟩ : ∃ q1 : Nat, q1 = q + 1 := ⟨_, rfl⟩
    have ew3 : IntKind.i64.wrap ((q : Int) + 1) = (q1 : Int) := (IntWalk.i64_in _ (by have := HQL.out; have := HB_.out; clear ew1 ev1 ew2 ev2; omega)).trans (by rw [hq1]; rfl)
    have ev3 := (i64_w _).symm.trans ew3
    have HQ1 := Aside0.mk hq1
    clear hq1
    go_upto_if 47 with fail
    go_cut [5, 47] (fun v7 v17 wc => Aside0 (impl_besideOf_S w wc #[.int .i64 (R : Int), .int .i64 (cn : Int), .slice A0_2 l0_2.length c0_2] v7 (acc ++ (if q + 1 < R then [i + cn] else []))))
    case first =>
     by_cases hp : q + 1 < R
     ·have hd : q1 < R := by rw [HQ1.out]; exact hp
      obtain ⟨u, hu⟩ : ∃ u : Nat, u = i + cn := ⟨_, rfl⟩
      have ewx : IntKind.i64.wrap ((i : Int) + (cn : Int)) = (u : Int) := (IntWalk.i64_in _ (by have := HB_.out; clear ew1 ev1 ew2 ev2 ew3 ev3; omega)).trans (by clear ew1 ev1 ew2 ev2 ew3 ev3; omega)
      have evx := (i64_w _).symm.trans ewx
      have HU := Aside0.mk hu
      have HP := Aside0.mk hp
      clear hu hp
      go_wp2_with (first
       | ((with_reducible refine gate_builtin (b := .append) (xs := #[.tmp 48, .tmp 53]) rfl ?_); at_builtin; refine Kd.R_append (Kd.int .i64) (w0 := w) w.heap.size rfl (.tmp 48) (.tmp 53) 39 3 (.int .i64 0) 8 rfl Try.underlying39 info3 rfl (by decide) (by decide) (.slice Ar acc.length cr) (natI acc) (u : Int) [.int .i64 (u : Int)] (fun _ => True) (fun _ => False) rfl rfl ?aP (fun _ hk => hk.elim) (fun _ _ => trivial) ?aO ?aB ?aS ?aL ?_; (case aP => exact rfl); (case aO => exact HS0.out.ro); (case aB => exact HS0.out.be); (case aS => exact HS0.out.be.size); (case aL => rw [natI_len]; exact Nat.le_trans (Nat.mul_le_mul_right 8 (Nat.succ_le_succ hal)) (by decide)); intro v9 w9 hS hb hg_ _; have HS9 : Aside0 (impl_besideOf_S w w9 #[.int .i64 (R : Int), .int .i64 (cn : Int), .slice A0_2 l0_2.length c0_2] v9 (acc ++ [u])) := ⟨⟨blk_grown HS0.out.bA hg_ (Kd.R_ne HS0.out.ro HS0.out.bA (by decide)), by rw [natI_snoc]; exact hS, hb⟩⟩; clear hS hb hg_)
       | fail)
      go_meet
      case rel => exact ⟨by rw [if_pos HP.out, ← HU.out]; exact HS9.out⟩
     ·have hd : ¬ (q1 < R) := by rw [HQ1.out]; exact hp
      have HP := Aside0.mk hp
      clear hp
      go_wp2
      go_meet
      case rel => exact ⟨by rw [if_neg HP.out, List.append_nil]; exact HS0.out⟩
    case rest =>
     clear HS0 x0 x1
     have HS1 := hcut
     clear hcut
     obtain ⟨acc2, hacc2⟩ : ∃ a_, a_ = acc ++ (if q + 1 < R then [i + cn] else []) := ⟨_, rfl⟩
     rw [← hacc2] at HS1
     have hal2 : acc2.length ≤ 4 := by rw [hacc2, List.length_append]; exact Nat.add_le_add hal (impl_besideOf_opt _ _)
     replace HA := Aside0.mk (hacc2.trans (by rw [HA.out]))
     clear hacc2 hal
     have hal := hal2
     clear hal2
     have HS0 := HS1
     clear HS1
     generalize wc = wr at HS0 ⊢
     clear acc
     generalize hac_ : acc2 = acc at HA hal HS0 ⊢
     clear hac_
     obtain ⟨Ar, cr, er⟩ := Kd.R_slice HS0.out.ro
     subst er
     go_wp2
     go_ret
     have hE : Q = acc := by rw [HQ.out, HA.out, List.nil_append]
     subst hE
     exact ⟨_, rfl, HS0.out.ro, HS0.out.be⟩
end Go.Proofs.Ytcilbmbgdcepgaa.P
