/- The walk of the reference's PartCount: what it answers out of what boGood and boParts answer. -/
import Derived.Test.YtlagoaoenaaglaaPx42
import Derived.Test.YtlagoaoenaaglaaPx43
import Derived.Deep.RegionWith
namespace Go.Proofs.Ytlagoaoenaaglaa.P
open Go.RowKit Go.Proofs.YtlagoaoenaaglaaW.PrintWords Go.Proofs.YtlagoaoenaaglaaW.PrintLast Go.Proofs.YtlagoaoenaaglaaW.PrintMore
set_option linter.unusedVariables false
/-! ### spec_PartCount: function 26 -/
def spec_PartCount.f (k : Nat) (a0_0 : Int) (a0_1 : Int) (l0_2 : List (S59)) : Option (Int × Bool) :=
  (spec_boGood.f k a0_0 a0_1 l0_2).bind fun t => if t = true then (spec_boParts.f k a0_0 a0_1 l0_2).bind fun ps => if 0 < ps.length then some (wrap64 ((l0_2.length : Int) - rd ps 0), true) else none else some (0, false)
theorem spec_PartCount.mono : ∀ a0 a1 a2 k, LeO (spec_PartCount.f k a0 a1 a2) (spec_PartCount.f (k + 1) a0 a1 a2) := by
  intro a0 a1 a2 k
  unfold spec_PartCount.f
  refine LeO.bind (spec_boGood.mono _ _ _ _) (fun _ => LeO.ite (LeO.bind (spec_boParts.mono _ _ _ _) (fun _ => LeO.refl _)) (LeO.refl _))
theorem first_of_ints {w : World} {base : Nat} {ok : Nat → Prop} {v : Value} {xs : List Int} (h : Kd.R (Kd.int .i64) 3 w base ok v xs) (h0 : 0 < xs.length) :
    ∃ g cap, v = .slice (some ⟨g, 0, none⟩) xs.length cap ∧ w.cell? ⟨g, 0, none⟩ = some (.int .i64 (rd xs 0)) := by
  obtain ⟨g, cp, rfl, _, _, _⟩ := Kd.R_form h h0
  obtain ⟨ce, hcl, hM, hcc, hfr2⟩ := Kd.R_elem h 0 0 (by omega) (by omega)
  have hM' : ce = [.int .i64 (rd xs 0)] := hM
  subst hM'
  exact ⟨g, cp, rfl, hcc 0 _ rfl⟩
set_option maxHeartbeats 2000000 in
set_option maxRecDepth 100000 in
theorem spec_PartCount.yes (k : Nat) (r c : Int) (A : Option Addr) (cap : Nat) (l : List S59) (ps : List Int) (w : World) (hC : Kd.C k59 w A l.length l) (hc : l.length ≤ cap)
    (h1 : spec_boGood.f k r c l = some true) (h2 : spec_boParts.f k r c l = some ps) (h3 : 0 < ps.length) (h4 : l.length ≤ 9223372036854775807) :
    Calls Try.prog 26 #[.agg #[.int .i64 r, .int .i64 c, .slice A l.length cap]] w fun e w' => e = .returned (.tuple #[.int .i64 (wrap64 ((l.length : Int) - rd ps 0)), .bool true]) ∧ Below w.heap.size w w' := by
  have H1 := Aside0.mk h1
  have H2 := Aside0.mk h2
  have HC := Aside0.mk hC
  have Hc := Aside0.mk hc
  clear h1 h2 hC hc
  have hb1 : ∀ o, Below w.heap.size w (w.alloc o) := fun o => (Below.refl _ _).alloc (Nat.le_refl _) _
  go_enter Try.func26, Try.ntmps26
  go_wp2_with fail
  refine (spec_boGood.calls k r c A cap l true _ (Kd.C_alloc HC.out _) Hc.out H1.out).mono ?_
  rintro e w1 ⟨rfl, hb⟩
  have hcell : ∀ b o, b < w.heap.size + 1 → w1.cell? ⟨b, o, none⟩ = (w.alloc (.cells #[.int .i64 r, .int .i64 c, .slice A l.length cap] 36)).cell? ⟨b, o, none⟩ := fun b o h => hb.cell (p := ⟨b, o, none⟩) (by simpa using h)
  have hfr : w.heap.size + 1 ≤ w1.heap.size := by simpa using hb.size
  have B1 : Below w.heap.size w w1 := (hb1 _).trans (hb.mono (by simp))
  clear hb
  have c0 : w1.cell? ⟨w.heap.size, 0, none⟩ = some (.int .i64 r) := (hcell _ _ (by omega)).trans (by simp)
  have c1 : w1.cell? ⟨w.heap.size, 1, none⟩ = some (.int .i64 c) := (hcell _ _ (by omega)).trans (by simp)
  have c2 : w1.cell? ⟨w.heap.size, 2, none⟩ = some (.slice A l.length cap) := (hcell _ _ (by omega)).trans (by simp)
  have HB1 := Aside0.mk B1
  clear hcell B1
  go_wp2_with fail
  go_region_with (go_at_call 44; refine (spec_boParts.calls k r c A cap l ps _ (Kd.C_drew (Kd.C_below HC.out HB1.out)) Hc.out H2.out).mono ?_; rintro e w2 ⟨v, rfl, hR, hb⟩; obtain ⟨g, cp, rfl, hx⟩ := first_of_ints hR h3; have d2 : w2.cell? ⟨w.heap.size, 2, none⟩ = some (.slice A l.length cap) := (hb.cell (p := ⟨w.heap.size, 2, none⟩) (by simp; omega)).trans (by simpa using c2); have HB2 := Aside0.mk ((below_drew1 HB1.out).trans (hb.mono (by simp; omega))); clear hR hb)
  all_goals
    go_wp2_with fail
    go_ret2
    exact ⟨by simp [Act.put, i64_w], by repeat (first | exact HB2.out | apply below_drew1 | apply pw_below_drewN)⟩
set_option maxHeartbeats 2000000 in
set_option maxRecDepth 100000 in
theorem spec_PartCount.no (k : Nat) (r c : Int) (A : Option Addr) (cap : Nat) (l : List S59) (w : World) (hC : Kd.C k59 w A l.length l) (hc : l.length ≤ cap)
    (h1 : spec_boGood.f k r c l = some false) :
    Calls Try.prog 26 #[.agg #[.int .i64 r, .int .i64 c, .slice A l.length cap]] w fun e w' => e = .returned (.tuple #[.int .i64 0, .bool false]) ∧ Below w.heap.size w w' := by
  have H1 := Aside0.mk h1
  have HC := Aside0.mk hC
  have Hc := Aside0.mk hc
  clear h1 hC hc
  have hb1 : ∀ o, Below w.heap.size w (w.alloc o) := fun o => (Below.refl _ _).alloc (Nat.le_refl _) _
  go_enter Try.func26, Try.ntmps26
  go_wp2_with fail
  refine (spec_boGood.calls k r c A cap l false _ (Kd.C_alloc HC.out _) Hc.out H1.out).mono ?_
  rintro e w1 ⟨rfl, hb⟩
  have HB1 := Aside0.mk ((hb1 (.cells #[.int .i64 r, .int .i64 c, .slice A l.length cap] 36)).trans (hb.mono (by simp)))
  clear hb
  go_wp2_with fail
  go_ret2
  exact ⟨rfl, HB1.out⟩
theorem spec_PartCount.calls (k : Nat) (a0_0 : Int) (a0_1 : Int) (A0_2 : Option Addr) (c0_2 : Nat) (l0_2 : List (S59)) (r1 : Int) (r2 : Bool) (w : World) (hr0_2 : Kd.C k59 w A0_2 l0_2.length l0_2) (hc0_2 : l0_2.length ≤ c0_2) (h : spec_PartCount.f k a0_0 a0_1 l0_2 = some (r1, r2)) :
    Calls Try.prog 26 #[.agg #[.int .i64 a0_0, .int .i64 a0_1, .slice A0_2 l0_2.length c0_2]] w fun e w' => e = .returned (.tuple #[.int .i64 r1, .bool r2]) ∧ Below w.heap.size w w' := by
  unfold spec_PartCount.f at h
  obtain ⟨t, ht, h⟩ := Option.bind_eq_some_iff.mp h
  cases t with
  | false =>
    simp only [Bool.false_eq_true, if_false, Option.some.injEq, Prod.mk.injEq] at h
    obtain ⟨rfl, rfl⟩ := h
    exact spec_PartCount.no k a0_0 a0_1 _ _ _ w hr0_2 hc0_2 ht
  | true =>
    simp only [if_true] at h
    obtain ⟨ps, hp, h⟩ := Option.bind_eq_some_iff.mp h
    by_cases hl : 0 < ps.length
    · simp only [if_pos hl, Option.some.injEq, Prod.mk.injEq] at h
      obtain ⟨rfl, rfl⟩ := h
      exact spec_PartCount.yes k a0_0 a0_1 _ _ _ ps w hr0_2 hc0_2 ht hp hl hr0_2.2.1
    · simp [if_neg hl] at h
end Go.Proofs.Ytlagoaoenaaglaa.P
