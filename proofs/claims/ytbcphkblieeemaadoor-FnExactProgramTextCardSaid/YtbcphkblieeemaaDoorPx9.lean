/- The walk of the reference's ctText: the text of instructions, line by line. -/
import Derived.Test.YtbcphkblieeemaaDoorPx8
namespace Go.Proofs.YtbcphkblieeemaaDoor.P
open Go.RowKit Go.Proofs.YtbcphkblieeemaaDoorW.PrintWords Go.Proofs.YtbcphkblieeemaaDoorW.PrintLast Go.Proofs.YtbcphkblieeemaaDoorW.PrintMore
attribute [local go_sem] max2_int min2_int max_two min_two max_three min_three max_four min_four
set_option linter.unusedVariables false
set_option linter.unusedSimpArgs false
/-! ### spec_ctText: function 35 -/
def spec_ctText.l0 : Nat → ByteArray → List S52 → Int → Option ByteArray
  | 0, _, _, _ => none
  | k + 1, x, l, i => if i < (l.length : Int) then (if 0 ≤ i then (if (rd_T52 l i).f0 = 0 then ((spec_l1Num.f k ((rd_T52 l i).f1)).bind fun t0 => (if 3 + t0.size ≤ 9223372036854775807 then (if x.size + (3 + t0.size) ≤ 9223372036854775807 then (if x.size + (3 + t0.size) + 1 ≤ 9223372036854775807 then spec_ctText.l0 k ((x ++ ((⟨#[117, 112, 32]⟩ : ByteArray) ++ t0)) ++ (⟨#[10]⟩ : ByteArray)) l (wrap64 (i + 1)) else none) else none) else none)) else if (rd_T52 l i).f0 = 1 then ((spec_l1Num.f k ((rd_T52 l i).f1)).bind fun t0 => (if 5 + t0.size ≤ 9223372036854775807 then (if 5 + t0.size + 1 ≤ 9223372036854775807 then ((spec_l1Num.f k ((rd_T52 l i).f2)).bind fun t1 => (if 5 + t0.size + 1 + t1.size ≤ 9223372036854775807 then (if x.size + (5 + t0.size + 1 + t1.size) ≤ 9223372036854775807 then (if x.size + (5 + t0.size + 1 + t1.size) + 1 ≤ 9223372036854775807 then spec_ctText.l0 k ((x ++ ((((⟨#[100, 111, 119, 110, 32]⟩ : ByteArray) ++ t0) ++ (⟨#[32]⟩ : ByteArray)) ++ t1)) ++ (⟨#[10]⟩ : ByteArray)) l (wrap64 (i + 1)) else none) else none) else none)) else none) else none)) else if (rd_T52 l i).f0 = 2 then ((spec_l1Num.f k ((rd_T52 l i).f2)).bind fun t0 => (if 5 + t0.size ≤ 9223372036854775807 then (if x.size + (5 + t0.size) ≤ 9223372036854775807 then (if x.size + (5 + t0.size) + 1 ≤ 9223372036854775807 then spec_ctText.l0 k ((x ++ ((⟨#[106, 117, 109, 112, 32]⟩ : ByteArray) ++ t0)) ++ (⟨#[10]⟩ : ByteArray)) l (wrap64 (i + 1)) else none) else none) else none)) else (if x.size + 4 ≤ 9223372036854775807 then (if x.size + 4 + 1 ≤ 9223372036854775807 then spec_ctText.l0 k ((x ++ (⟨#[104, 97, 108, 116]⟩ : ByteArray)) ++ (⟨#[10]⟩ : ByteArray)) l (wrap64 (i + 1)) else none) else none)) else none) else some x
def spec_ctText.f (k : Nat) (l : List S52) : Option ByteArray := spec_ctText.l0 k ⟨#[]⟩ l 0
theorem spec_ctText.mono_l : ∀ k, (∀ y0 y1 y2, LeO (spec_ctText.l0 k y0 y1 y2) (spec_ctText.l0 (k + 1) y0 y1 y2))
  | 0 => fun _ _ _ r h => by simp [spec_ctText.l0] at h
  | k + 1 => by
    have ih0 := spec_ctText.mono_l k
    intro y0 y1 y2
    unfold spec_ctText.l0
    repeat' first
      | (with_reducible exact ih0 _ _ _)
      | (with_reducible exact spec_l1Num.mono _ _)
      | (with_reducible exact LeO.refl _)
      | (with_reducible refine LeO.ite ?_ ?_)
      | (with_reducible refine LeO.bind ?_ (fun _ => ?_))
theorem spec_ctText.mono : ∀ a0 k, LeO (spec_ctText.f k a0) (spec_ctText.f (k + 1) a0) := fun a0 k => spec_ctText.mono_l k _ _ _
set_option maxHeartbeats 8000000 in
set_option maxRecDepth 100000 in
theorem spec_ctText.calls (k : Nat) (A : Option Addr) (c : Nat) (l : List S52) (r : ByteArray) (w : World) (hC : Kd.C k52 w A l.length l) (hc : l.length ≤ c) (h : spec_ctText.f k l = some r) :
    Calls Tryd.prog 35 #[.slice A l.length c] w fun e w' => e = .returned (.string r) ∧ Below w.heap.size w w' := by
  have hu52 := Tryd.underlying52
  have HC := Aside0.mk hC
  have Hc := Aside0.mk hc
  have HB := Aside0.mk (Below.refl w.heap.size w)
  have H' := Aside0.mk (show spec_ctText.l0 k ⟨#[]⟩ l 0 = some r from h)
  clear hC hc h
  go_enter Tryd.func35, Tryd.ntmps35
  go_wp2
  go_loopg [3, 8] k (fun kq v3 v8 w' => ∃ (x : ByteArray) (i : Int), v3 = .string x ∧ v8 = .int .i64 i ∧ Aside0 (spec_ctText.l0 kq x l i = some r) ∧ Aside0 (kq ≤ k) ∧ Aside0 (Below w.heap.size w w'))
  case atStart => exact ⟨⟨#[]⟩, 0, rfl, rfl, H', ⟨Nat.le_refl _⟩, ⟨by repeat (first | (with_reducible first | exact HB.out | apply below_alloc | apply pw_below_drewN | apply below_drew1) | exact HB.out)⟩⟩
  case round =>
    clear H'
    obtain ⟨x, i, rfl, rfl, HA, HK1, HB⟩ := hrel
    cases gk with
    | zero => exact absurd HA.out (by simp [spec_ctText.l0])
    | succ k1 =>
      have H := HA.out
      clear HA
      simp only [spec_ctText.l0] at H
      by_cases c2 : i < (l.length : Int)
      · rw [if_pos c2] at H
        have c2b : decide (i < (l.length : Int)) = true := decide_eq_true c2
        by_cases c3 : 0 ≤ i
        · rw [if_pos c3] at H
          obtain ⟨ad, ead, hx0, hx1, hx2⟩ := at_T52 HC.out i c3 c2
          cases ead
          replace hx0 := (HB.out.cell (World.block_lt_of_cell? w _ hx0)).trans hx0
          replace hx1 := (HB.out.cell (World.block_lt_of_cell? w _ hx1)).trans hx1
          replace hx2 := (HB.out.cell (World.block_lt_of_cell? w _ hx2)).trans hx2
          replace c3 := eq_true c3
          replace c2 := eq_true c2
          by_cases n0 : (rd_T52 l i).f0 = 0
          · rw [if_pos n0] at H
            obtain ⟨t0, Bt0, H⟩ := Option.bind_eq_some_iff.mp H
            have At0 := Aside0.mk Bt0
            clear Bt0
            by_cases q0 : 3 + t0.size ≤ 9223372036854775807
            rotate_left
            · rw [if_neg q0] at H; exact absurd H (by simp)
            rw [if_pos q0] at H
            have q0b := eq_true q0
            have q0c := eq_false (Nat.not_lt.2 q0)
            by_cases q1 : x.size + (3 + t0.size) ≤ 9223372036854775807
            rotate_left
            · rw [if_neg q1] at H; exact absurd H (by simp)
            rw [if_pos q1] at H
            have q1b := eq_true q1
            have q1c := eq_false (Nat.not_lt.2 q1)
            by_cases q2 : x.size + (3 + t0.size) + 1 ≤ 9223372036854775807
            rotate_left
            · rw [if_neg q2] at H; exact absurd H (by simp)
            rw [if_pos q2] at H
            have q2b := eq_true q2
            have q2c := eq_false (Nat.not_lt.2 q2)
            have H' := Aside0.mk H
            clear H
            rw [n0] at hx0
            go_wp2_with (go_at_call 52; refine (spec_l1Num.calls k1 ((rd_T52 l i).f1) t0 _ At0.out).mono ?_; rintro e w2 ⟨rfl, hb⟩; have n0_ := Aside0.mk (below_step (by repeat (first | (with_reducible first | exact HB.out | apply below_alloc | apply pw_below_drewN | apply below_drew1) | exact HB.out)) hb); clear HB; have HB := n0_; clear n0_; clear hb)
            go_roundg k1
            case measure => have := HK1.out; omega
            case rel => exact ⟨_, _, rfl, rfl, H', ⟨by have := HK1.out; omega⟩, ⟨by repeat (first | (with_reducible first | exact HB.out | apply below_alloc | apply pw_below_drewN | apply below_drew1) | exact HB.out)⟩⟩
          rw [if_neg n0] at H
          by_cases n1 : (rd_T52 l i).f0 = 1
          · rw [if_pos n1] at H
            obtain ⟨t0, Bt0, H⟩ := Option.bind_eq_some_iff.mp H
            have At0 := Aside0.mk Bt0
            clear Bt0
            by_cases q0 : 5 + t0.size ≤ 9223372036854775807
            rotate_left
            · rw [if_neg q0] at H; exact absurd H (by simp)
            rw [if_pos q0] at H
            have q0b := eq_true q0
            have q0c := eq_false (Nat.not_lt.2 q0)
            by_cases q1 : 5 + t0.size + 1 ≤ 9223372036854775807
            rotate_left
            · rw [if_neg q1] at H; exact absurd H (by simp)
            rw [if_pos q1] at H
            have q1b := eq_true q1
            have q1c := eq_false (Nat.not_lt.2 q1)
            obtain ⟨t1, Bt1, H⟩ := Option.bind_eq_some_iff.mp H
            have At1 := Aside0.mk Bt1
            clear Bt1
            by_cases q2 : 5 + t0.size + 1 + t1.size ≤ 9223372036854775807
            rotate_left
            · rw [if_neg q2] at H; exact absurd H (by simp)
            rw [if_pos q2] at H
            have q2b := eq_true q2
            have q2c := eq_false (Nat.not_lt.2 q2)
            by_cases q3 : x.size + (5 + t0.size + 1 + t1.size) ≤ 9223372036854775807
            rotate_left
            · rw [if_neg q3] at H; exact absurd H (by simp)
            rw [if_pos q3] at H
            have q3b := eq_true q3
            have q3c := eq_false (Nat.not_lt.2 q3)
            by_cases q4 : x.size + (5 + t0.size + 1 + t1.size) + 1 ≤ 9223372036854775807
            rotate_left
            · rw [if_neg q4] at H; exact absurd H (by simp)
            rw [if_pos q4] at H
            have q4b := eq_true q4
            have q4c := eq_false (Nat.not_lt.2 q4)
            have H' := Aside0.mk H
            clear H
            rw [n1] at hx0
            go_wp2
            go_region_with (go_at_call 52; first | ((with_reducible refine (spec_l1Num.calls k1 ((rd_T52 l i).f1) t0 _ At0.out).mono ?_); rintro e w2 ⟨rfl, hb⟩; have d2 : w2.cell? ⟨wr.heap.size, 2, none⟩ = some (.int .i64 ((rd_T52 l i).f2)) := (hb.cell (p := ⟨wr.heap.size, 2, none⟩) (by simp)).trans (by simp); have n0_ := Aside0.mk (below_step (by repeat (first | (with_reducible first | exact HB.out | apply below_alloc | apply pw_below_drewN | apply below_drew1) | exact HB.out)) hb); clear HB; have HB := n0_; clear n0_; clear hb) | ((with_reducible refine (spec_l1Num.calls k1 ((rd_T52 l i).f2) t1 _ At1.out).mono ?_); rintro e w3 ⟨rfl, hb⟩; have n0_ := Aside0.mk (below_step (by repeat (first | (with_reducible first | exact HB.out | apply below_alloc | apply pw_below_drewN | apply below_drew1) | exact HB.out)) hb); clear HB; have HB := n0_; clear n0_; clear hb))
            all_goals
              go_wp2
              go_roundg k1
              case measure => have := HK1.out; omega
              case rel => exact ⟨_, _, rfl, rfl, H', ⟨by have := HK1.out; omega⟩, ⟨by repeat (first | (with_reducible first | exact HB.out | apply below_alloc | apply pw_below_drewN | apply below_drew1) | exact HB.out)⟩⟩
          rw [if_neg n1] at H
          by_cases n2 : (rd_T52 l i).f0 = 2
          · rw [if_pos n2] at H
            obtain ⟨t0, Bt0, H⟩ := Option.bind_eq_some_iff.mp H
            have At0 := Aside0.mk Bt0
            clear Bt0
            by_cases q0 : 5 + t0.size ≤ 9223372036854775807
            rotate_left
            · rw [if_neg q0] at H; exact absurd H (by simp)
            rw [if_pos q0] at H
            have q0b := eq_true q0
            have q0c := eq_false (Nat.not_lt.2 q0)
            by_cases q1 : x.size + (5 + t0.size) ≤ 9223372036854775807
            rotate_left
            · rw [if_neg q1] at H; exact absurd H (by simp)
            rw [if_pos q1] at H
            have q1b := eq_true q1
            have q1c := eq_false (Nat.not_lt.2 q1)
            by_cases q2 : x.size + (5 + t0.size) + 1 ≤ 9223372036854775807
            rotate_left
            · rw [if_neg q2] at H; exact absurd H (by simp)
            rw [if_pos q2] at H
            have q2b := eq_true q2
            have q2c := eq_false (Nat.not_lt.2 q2)
            have H' := Aside0.mk H
            clear H
            rw [n2] at hx0
            go_wp2_with (go_at_call 52; refine (spec_l1Num.calls k1 ((rd_T52 l i).f2) t0 _ At0.out).mono ?_; rintro e w2 ⟨rfl, hb⟩; have n0_ := Aside0.mk (below_step (by repeat (first | (with_reducible first | exact HB.out | apply below_alloc | apply pw_below_drewN | apply below_drew1) | exact HB.out)) hb); clear HB; have HB := n0_; clear n0_; clear hb)
            go_roundg k1
            case measure => have := HK1.out; omega
            case rel => exact ⟨_, _, rfl, rfl, H', ⟨by have := HK1.out; omega⟩, ⟨by repeat (first | (with_reducible first | exact HB.out | apply below_alloc | apply pw_below_drewN | apply below_drew1) | exact HB.out)⟩⟩
          rw [if_neg n2] at H
          by_cases q0 : x.size + 4 ≤ 9223372036854775807
          rotate_left
          · rw [if_neg q0] at H; exact absurd H (by simp)
          rw [if_pos q0] at H
          have q0b := eq_true q0
          have q0c := eq_false (Nat.not_lt.2 q0)
          by_cases q1 : x.size + 4 + 1 ≤ 9223372036854775807
          rotate_left
          · rw [if_neg q1] at H; exact absurd H (by simp)
          rw [if_pos q1] at H
          have q1b := eq_true q1
          have q1c := eq_false (Nat.not_lt.2 q1)
          have H' := Aside0.mk H
          clear H
          have e1 : ((rd_T52 l i).f0 == 0) = false := by simpa using n0
          have e2 : ((rd_T52 l i).f0 == 1) = false := by simpa using n1
          have e3 : ((rd_T52 l i).f0 == 2) = false := by simpa using n2
          go_wp2
          go_roundg k1
          case measure => have := HK1.out; omega
          case rel => exact ⟨_, _, rfl, rfl, H', ⟨by have := HK1.out; omega⟩, ⟨by repeat (first | (with_reducible first | exact HB.out | apply below_alloc | apply pw_below_drewN | apply below_drew1) | exact HB.out)⟩⟩
        · rw [if_neg c3] at H
          exact absurd H (by simp)
      · rw [if_neg c2] at H
        have c2b : decide (i < (l.length : Int)) = false := decide_eq_false c2
        clear c2
        obtain rfl := Option.some.inj H
        go_wp2
        go_ret
        exact ⟨rfl, by repeat (first | (with_reducible first | exact HB.out | apply below_alloc | apply pw_below_drewN | apply below_drew1) | exact HB.out)⟩
end Go.Proofs.YtbcphkblieeemaaDoor.P
