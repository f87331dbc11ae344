/- The walk of the program's ProgramText: the text of instructions, line by line. -/
import Derived.Test.YtbcphkblieeemaaDoorPx27
import Derived.Test.YtbcphkblieeemaaDoorPx25
import Derived.Test.YtbcphkblieeemaaDoorPx26
import Derived.Test.YtbcphkblieeemaaDoorVItoa
namespace Go.Proofs.YtbcphkblieeemaaDoor.P
open Go.RowKit Go.Proofs.YtbcphkblieeemaaDoorW.PrintWords Go.Proofs.YtbcphkblieeemaaDoorW.PrintLast Go.Proofs.YtbcphkblieeemaaDoorW.PrintMore
attribute [local go_sem] max2_int min2_int max_two min_two max_three min_three max_four min_four
set_option linter.unusedVariables false
set_option linter.unusedSimpArgs false
/-! ### impl_ProgramText: function 15 -/
/-- The numeral of a number of at most two digits. -/
def itB (i : Int) : ByteArray := ⟨(Lib.decDigits i.toNat).toArray⟩
theorem Itoa_it (x : Int) (h0 : 0 ≤ x) (h1 : x < 100) (w : World) : Calls Tryd.prog 30 #[.int .i64 x] w fun e w' => e = .returned (.string (itB x)) ∧ w' = w := by
  obtain ⟨m, rfl⟩ := Int.eq_ofNat_of_zero_le h0
  exact Itoa_small m (by omega) w
def impl_ProgramText.l0 : Nat → ByteArray → List S52 → Int → Option ByteArray
  | 0, _, _, _ => none
  | k + 1, x6, l, i => if i < (l.length : Int) then (if 0 ≤ i then (if (rd_T52 l i).f0 = 0 then (if x6.size + 2 ≤ 9223372036854775807 then (if 0 ≤ (rd_T52 l i).f1 then (if (rd_T52 l i).f1 < 100 then (if 1 + (itB ((rd_T52 l i).f1)).size ≤ 9223372036854775807 then (if x6.size + 2 + (1 + (itB ((rd_T52 l i).f1)).size) ≤ 9223372036854775807 then (if x6.size + 2 + (1 + (itB ((rd_T52 l i).f1)).size) + 1 ≤ 9223372036854775807 then impl_ProgramText.l0 k (((x6 ++ (⟨#[117, 112]⟩ : ByteArray)) ++ ((⟨#[32]⟩ : ByteArray) ++ itB ((rd_T52 l i).f1))) ++ (⟨#[10]⟩ : ByteArray)) l (wrap64 (i + 1)) else none) else none) else none) else none) else none) else none) else (if (rd_T52 l i).f0 = 1 then (if x6.size + 4 ≤ 9223372036854775807 then (if 0 ≤ (rd_T52 l i).f1 then (if (rd_T52 l i).f1 < 100 then (if 1 + (itB ((rd_T52 l i).f1)).size ≤ 9223372036854775807 then (if x6.size + 4 + (1 + (itB ((rd_T52 l i).f1)).size) ≤ 9223372036854775807 then (if 0 ≤ (rd_T52 l i).f2 then (if (rd_T52 l i).f2 < 100 then (if 1 + (itB ((rd_T52 l i).f2)).size ≤ 9223372036854775807 then (if x6.size + 4 + (1 + (itB ((rd_T52 l i).f1)).size) + (1 + (itB ((rd_T52 l i).f2)).size) ≤ 9223372036854775807 then (if x6.size + 4 + (1 + (itB ((rd_T52 l i).f1)).size) + (1 + (itB ((rd_T52 l i).f2)).size) + 1 ≤ 9223372036854775807 then impl_ProgramText.l0 k ((((x6 ++ (⟨#[100, 111, 119, 110]⟩ : ByteArray)) ++ ((⟨#[32]⟩ : ByteArray) ++ itB ((rd_T52 l i).f1))) ++ ((⟨#[32]⟩ : ByteArray) ++ itB ((rd_T52 l i).f2))) ++ (⟨#[10]⟩ : ByteArray)) l (wrap64 (i + 1)) else none) else none) else none) else none) else none) else none) else none) else none) else none) else none) else (if (rd_T52 l i).f0 = 2 then (if x6.size + 4 ≤ 9223372036854775807 then (if 0 ≤ (rd_T52 l i).f2 then (if (rd_T52 l i).f2 < 100 then (if 1 + (itB ((rd_T52 l i).f2)).size ≤ 9223372036854775807 then (if x6.size + 4 + (1 + (itB ((rd_T52 l i).f2)).size) ≤ 9223372036854775807 then (if x6.size + 4 + (1 + (itB ((rd_T52 l i).f2)).size) + 1 ≤ 9223372036854775807 then impl_ProgramText.l0 k (((x6 ++ (⟨#[106, 117, 109, 112]⟩ : ByteArray)) ++ ((⟨#[32]⟩ : ByteArray) ++ itB ((rd_T52 l i).f2))) ++ (⟨#[10]⟩ : ByteArray)) l (wrap64 (i + 1)) else none) else none) else none) else none) else none) else none) else (if (rd_T52 l i).f0 = 3 then (if x6.size + 4 ≤ 9223372036854775807 then (if x6.size + 4 + 1 ≤ 9223372036854775807 then impl_ProgramText.l0 k ((x6 ++ (⟨#[104, 97, 108, 116]⟩ : ByteArray)) ++ (⟨#[10]⟩ : ByteArray)) l (wrap64 (i + 1)) else none) else none) else none)))) else none) else some x6
def impl_ProgramText.f (k : Nat) (l : List S52) (n : Int) : Option (ByteArray × Bool) :=
  (impl_AreInstructions.f k l n).bind fun t => if t = true then (impl_ProgramText.l0 k ⟨#[]⟩ l 0).bind fun s => some (s, true) else some (⟨#[]⟩, false)
/-- What the package variable instructionNames holds. -/
structure NamesIn (w : World) : Prop where
  c0 : w.cell? ⟨0, 0, none⟩ = some (.string ⟨#[117, 112]⟩)
  c1 : w.cell? ⟨0, 1, none⟩ = some (.string ⟨#[100, 111, 119, 110]⟩)
  c2 : w.cell? ⟨0, 2, none⟩ = some (.string ⟨#[106, 117, 109, 112]⟩)
  c3 : w.cell? ⟨0, 3, none⟩ = some (.string ⟨#[104, 97, 108, 116]⟩)
set_option maxHeartbeats 8000000 in
set_option maxRecDepth 100000 in
theorem impl_ProgramText.calls (k : Nat) (A : Option Addr) (c : Nat) (l : List S52) (n : Int) (r : ByteArray) (b : Bool) (w : World) (hN : NamesIn w) (hC : Kd.C k52 w A l.length l) (hc : l.length ≤ c) (h : impl_ProgramText.f k l n = some (r, b)) :
    Calls Tryd.prog 15 #[.slice A l.length c, .int .i64 n] w fun e w' => e = .returned (.tuple #[.string r, .bool b]) ∧ Below w.heap.size w w' := by
  have hu52 := Tryd.underlying52
  have HC := Aside0.mk hC
  have Hc := Aside0.mk hc
  have HN := Aside0.mk hN
  clear hC hc hN
  unfold impl_ProgramText.f at h
  obtain ⟨t, h1, h⟩ := Option.bind_eq_some_iff.mp h
  have H1 := Aside0.mk h1
  clear h1
  cases t with
  | false =>
    simp only [Bool.false_eq_true, if_false, Option.some.injEq, Prod.mk.injEq] at h
    obtain ⟨rfl, rfl⟩ := h
    go_enter Tryd.func15, Tryd.ntmps15
    go_wp2_with (go_at_call 36; refine (impl_AreInstructions.calls k A c l n false _ HC.out Hc.out H1.out).mono ?_; rintro e w' ⟨rfl, hb⟩)
    go_ret2
    exact ⟨by first | rfl | simp [Act.put, i64_w], by repeat (first | exact hb | apply below_drew1 | apply pw_below_drewN)⟩
  | true =>
    simp only [if_true] at h
    obtain ⟨s, h2, h⟩ := Option.bind_eq_some_iff.mp h
    simp only [Option.some.injEq, Prod.mk.injEq] at h
    obtain ⟨rfl, rfl⟩ := h
    have H' := Aside0.mk h2
    clear h2
    go_enter Tryd.func15, Tryd.ntmps15
    go_wp2_with (go_at_call 36; refine (impl_AreInstructions.calls k A c l n true _ HC.out Hc.out H1.out).mono ?_; rintro e w1 ⟨rfl, hb⟩)
    have HB := Aside0.mk hb
    clear hb
    go_loopg [6, 15] k (fun kq v6 v15 w' => ∃ (x6 : ByteArray) (i : Int), v6 = .string x6 ∧ v15 = .int .i64 i ∧ Aside0 (impl_ProgramText.l0 kq x6 l i = some s) ∧ Aside0 (kq ≤ k) ∧ Aside0 (Below w.heap.size w w'))
    case atStart => exact ⟨⟨#[]⟩, 0, rfl, rfl, H', ⟨Nat.le_refl _⟩, ⟨by repeat (first | (with_reducible first | exact HB.out | apply below_alloc | apply pw_below_drewN | apply below_drew1) | exact HB.out)⟩⟩
    case round =>
      clear H'
      obtain ⟨x6, i, rfl, rfl, HA, HK1, HB⟩ := hrel
      cases gk with
      | zero => exact absurd HA.out (by simp [impl_ProgramText.l0])
      | succ k1 =>
        have H := HA.out
        clear HA
        simp only [impl_ProgramText.l0] at H
        by_cases c2 : i < (l.length : Int)
        · rw [if_pos c2] at H
          have c2b : decide (i < (l.length : Int)) = true := decide_eq_true c2
          by_cases c3 : 0 ≤ i
          · rw [if_pos c3] at H
            obtain ⟨ad, ead, hx0, hx1, hx2⟩ := at_T52 HC.out i c3 c2
            cases ead
            replace hx0 := (HB.out.cell (World.block_lt_of_cell? w _ hx0)).trans hx0
            replace hx1 := (HB.out.cell (World.block_lt_of_cell? w _ hx1)).trans hx1
            replace hx2 := (HB.out.cell (World.block_lt_of_cell? w _ hx2)).trans hx2
            replace c3 := eq_true c3
            replace c2 := eq_true c2
            by_cases e0 : (rd_T52 l i).f0 = 0
            · rw [if_pos e0] at H
              by_cases q0 : x6.size + 2 ≤ 9223372036854775807
              rotate_left
              · rw [if_neg q0] at H; exact absurd H (by simp)
              rw [if_pos q0] at H
              have q0b := eq_true q0
              try have q0c := eq_false (Nat.not_lt.2 q0)
              by_cases q1 : 0 ≤ (rd_T52 l i).f1
              rotate_left
              · rw [if_neg q1] at H; exact absurd H (by simp)
              rw [if_pos q1] at H
              by_cases q2 : (rd_T52 l i).f1 < 100
              rotate_left
              · rw [if_neg q2] at H; exact absurd H (by simp)
              rw [if_pos q2] at H
              by_cases q3 : 1 + (itB ((rd_T52 l i).f1)).size ≤ 9223372036854775807
              rotate_left
              · rw [if_neg q3] at H; exact absurd H (by simp)
              rw [if_pos q3] at H
              have q3b := eq_true q3
              try have q3c := eq_false (Nat.not_lt.2 q3)
              by_cases q4 : x6.size + 2 + (1 + (itB ((rd_T52 l i).f1)).size) ≤ 9223372036854775807
              rotate_left
              · rw [if_neg q4] at H; exact absurd H (by simp)
              rw [if_pos q4] at H
              have q4b := eq_true q4
              try have q4c := eq_false (Nat.not_lt.2 q4)
              by_cases q5 : x6.size + 2 + (1 + (itB ((rd_T52 l i).f1)).size) + 1 ≤ 9223372036854775807
              rotate_left
              · rw [if_neg q5] at H; exact absurd H (by simp)
              rw [if_pos q5] at H
              have q5b := eq_true q5
              try have q5c := eq_false (Nat.not_lt.2 q5)
              have H' := Aside0.mk H
              clear H
              have g0 := (HB.out.cell (World.block_lt_of_cell? w _ HN.out.c0)).trans HN.out.c0
              have g1 : ∀ o, (wr.alloc o).cell? ⟨0, 0, none⟩ = some (.string ⟨#[117, 112]⟩) := fun o => (((((Below.refl _ _).alloc (Nat.le_refl _) o) : Below wr.heap.size wr (wr.alloc o))).cell (p := ⟨0, 0, none⟩) (World.block_lt_of_cell? wr _ g0)).trans g0
              rw [e0] at hx0
              go_wp2_with (first | (go_at_call 37; refine (impl_usesCounter.calls 0 true _ rfl).mono ?_; rintro e w2 ⟨rfl, ⟨⟨nd, rfl⟩⟩⟩) | (go_at_call 38; refine (impl_usesTarget.calls 0 false _ rfl).mono ?_; rintro e w2 ⟨rfl, ⟨⟨nd, rfl⟩⟩⟩) | (go_at_call 30; refine (Itoa_it _ (by assumption) (by assumption) _).mono ?_; rintro e w2 ⟨rfl, rfl⟩))
              go_roundg k1
              case measure => have := HK1.out; omega
              case rel => exact ⟨_, _, rfl, rfl, H', ⟨by have := HK1.out; omega⟩, ⟨by repeat (first | (with_reducible first | exact HB.out | apply below_alloc | apply pw_below_drewN | apply below_drew1) | exact HB.out)⟩⟩
            rw [if_neg e0] at H
            by_cases e0 : (rd_T52 l i).f0 = 1
            · rw [if_pos e0] at H
              by_cases q0 : x6.size + 4 ≤ 9223372036854775807
              rotate_left
              · rw [if_neg q0] at H; exact absurd H (by simp)
              rw [if_pos q0] at H
              have q0b := eq_true q0
              try have q0c := eq_false (Nat.not_lt.2 q0)
              by_cases q1 : 0 ≤ (rd_T52 l i).f1
              rotate_left
              · rw [if_neg q1] at H; exact absurd H (by simp)
              rw [if_pos q1] at H
              by_cases q2 : (rd_T52 l i).f1 < 100
              rotate_left
              · rw [if_neg q2] at H; exact absurd H (by simp)
              rw [if_pos q2] at H
              by_cases q3 : 1 + (itB ((rd_T52 l i).f1)).size ≤ 9223372036854775807
              rotate_left
              · rw [if_neg q3] at H; exact absurd H (by simp)
              rw [if_pos q3] at H
              have q3b := eq_true q3
              try have q3c := eq_false (Nat.not_lt.2 q3)
              by_cases q4 : x6.size + 4 + (1 + (itB ((rd_T52 l i).f1)).size) ≤ 9223372036854775807
              rotate_left
              · rw [if_neg q4] at H; exact absurd H (by simp)
              rw [if_pos q4] at H
              have q4b := eq_true q4
              try have q4c := eq_false (Nat.not_lt.2 q4)
              by_cases q5 : 0 ≤ (rd_T52 l i).f2
              rotate_left
              · rw [if_neg q5] at H; exact absurd H (by simp)
              rw [if_pos q5] at H
              by_cases q6 : (rd_T52 l i).f2 < 100
              rotate_left
              · rw [if_neg q6] at H; exact absurd H (by simp)
              rw [if_pos q6] at H
              by_cases q7 : 1 + (itB ((rd_T52 l i).f2)).size ≤ 9223372036854775807
              rotate_left
              · rw [if_neg q7] at H; exact absurd H (by simp)
              rw [if_pos q7] at H
              have q7b := eq_true q7
              try have q7c := eq_false (Nat.not_lt.2 q7)
              by_cases q8 : x6.size + 4 + (1 + (itB ((rd_T52 l i).f1)).size) + (1 + (itB ((rd_T52 l i).f2)).size) ≤ 9223372036854775807
              rotate_left
              · rw [if_neg q8] at H; exact absurd H (by simp)
              rw [if_pos q8] at H
              have q8b := eq_true q8
              try have q8c := eq_false (Nat.not_lt.2 q8)
              by_cases q9 : x6.size + 4 + (1 + (itB ((rd_T52 l i).f1)).size) + (1 + (itB ((rd_T52 l i).f2)).size) + 1 ≤ 9223372036854775807
              rotate_left
              · rw [if_neg q9] at H; exact absurd H (by simp)
              rw [if_pos q9] at H
              have q9b := eq_true q9
              try have q9c := eq_false (Nat.not_lt.2 q9)
              have H' := Aside0.mk H
              clear H
              have g0 := (HB.out.cell (World.block_lt_of_cell? w _ HN.out.c1)).trans HN.out.c1
              have g1 : ∀ o, (wr.alloc o).cell? ⟨0, 1, none⟩ = some (.string ⟨#[100, 111, 119, 110]⟩) := fun o => (((((Below.refl _ _).alloc (Nat.le_refl _) o) : Below wr.heap.size wr (wr.alloc o))).cell (p := ⟨0, 1, none⟩) (World.block_lt_of_cell? wr _ g0)).trans g0
              rw [e0] at hx0
              go_wp2_with (first | (go_at_call 37; refine (impl_usesCounter.calls 1 true _ rfl).mono ?_; rintro e w2 ⟨rfl, ⟨⟨nd, rfl⟩⟩⟩) | (go_at_call 38; refine (impl_usesTarget.calls 1 true _ rfl).mono ?_; rintro e w2 ⟨rfl, ⟨⟨nd, rfl⟩⟩⟩) | (go_at_call 30; refine (Itoa_it _ (by assumption) (by assumption) _).mono ?_; rintro e w2 ⟨rfl, rfl⟩))
              go_roundg k1
              case measure => have := HK1.out; omega
              case rel => exact ⟨_, _, rfl, rfl, H', ⟨by have := HK1.out; omega⟩, ⟨by repeat (first | (with_reducible first | exact HB.out | apply below_alloc | apply pw_below_drewN | apply below_drew1) | exact HB.out)⟩⟩
            rw [if_neg e0] at H
            by_cases e0 : (rd_T52 l i).f0 = 2
            · rw [if_pos e0] at H
              by_cases q0 : x6.size + 4 ≤ 9223372036854775807
              rotate_left
              · rw [if_neg q0] at H; exact absurd H (by simp)
              rw [if_pos q0] at H
              have q0b := eq_true q0
              try have q0c := eq_false (Nat.not_lt.2 q0)
              by_cases q1 : 0 ≤ (rd_T52 l i).f2
              rotate_left
              · rw [if_neg q1] at H; exact absurd H (by simp)
              rw [if_pos q1] at H
              by_cases q2 : (rd_T52 l i).f2 < 100
              rotate_left
              · rw [if_neg q2] at H; exact absurd H (by simp)
              rw [if_pos q2] at H
              by_cases q3 : 1 + (itB ((rd_T52 l i).f2)).size ≤ 9223372036854775807
              rotate_left
              · rw [if_neg q3] at H; exact absurd H (by simp)
              rw [if_pos q3] at H
              have q3b := eq_true q3
              try have q3c := eq_false (Nat.not_lt.2 q3)
              by_cases q4 : x6.size + 4 + (1 + (itB ((rd_T52 l i).f2)).size) ≤ 9223372036854775807
              rotate_left
              · rw [if_neg q4] at H; exact absurd H (by simp)
              rw [if_pos q4] at H
              have q4b := eq_true q4
              try have q4c := eq_false (Nat.not_lt.2 q4)
              by_cases q5 : x6.size + 4 + (1 + (itB ((rd_T52 l i).f2)).size) + 1 ≤ 9223372036854775807
              rotate_left
              · rw [if_neg q5] at H; exact absurd H (by simp)
              rw [if_pos q5] at H
              have q5b := eq_true q5
              try have q5c := eq_false (Nat.not_lt.2 q5)
              have H' := Aside0.mk H
              clear H
              have g0 := (HB.out.cell (World.block_lt_of_cell? w _ HN.out.c2)).trans HN.out.c2
              have g1 : ∀ o, (wr.alloc o).cell? ⟨0, 2, none⟩ = some (.string ⟨#[106, 117, 109, 112]⟩) := fun o => (((((Below.refl _ _).alloc (Nat.le_refl _) o) : Below wr.heap.size wr (wr.alloc o))).cell (p := ⟨0, 2, none⟩) (World.block_lt_of_cell? wr _ g0)).trans g0
              rw [e0] at hx0
              go_wp2_with (first | (go_at_call 37; refine (impl_usesCounter.calls 2 false _ rfl).mono ?_; rintro e w2 ⟨rfl, ⟨⟨nd, rfl⟩⟩⟩) | (go_at_call 38; refine (impl_usesTarget.calls 2 true _ rfl).mono ?_; rintro e w2 ⟨rfl, ⟨⟨nd, rfl⟩⟩⟩) | (go_at_call 30; refine (Itoa_it _ (by assumption) (by assumption) _).mono ?_; rintro e w2 ⟨rfl, rfl⟩))
              go_roundg k1
              case measure => have := HK1.out; omega
              case rel => exact ⟨_, _, rfl, rfl, H', ⟨by have := HK1.out; omega⟩, ⟨by repeat (first | (with_reducible first | exact HB.out | apply below_alloc | apply pw_below_drewN | apply below_drew1) | exact HB.out)⟩⟩
            rw [if_neg e0] at H
            by_cases e0 : (rd_T52 l i).f0 = 3
            · rw [if_pos e0] at H
              by_cases q0 : x6.size + 4 ≤ 9223372036854775807
              rotate_left
              · rw [if_neg q0] at H; exact absurd H (by simp)
              rw [if_pos q0] at H
              have q0b := eq_true q0
              try have q0c := eq_false (Nat.not_lt.2 q0)
              by_cases q1 : x6.size + 4 + 1 ≤ 9223372036854775807
              rotate_left
              · rw [if_neg q1] at H; exact absurd H (by simp)
              rw [if_pos q1] at H
              have q1b := eq_true q1
              try have q1c := eq_false (Nat.not_lt.2 q1)
              have H' := Aside0.mk H
              clear H
              have g0 := (HB.out.cell (World.block_lt_of_cell? w _ HN.out.c3)).trans HN.out.c3
              have g1 : ∀ o, (wr.alloc o).cell? ⟨0, 3, none⟩ = some (.string ⟨#[104, 97, 108, 116]⟩) := fun o => (((((Below.refl _ _).alloc (Nat.le_refl _) o) : Below wr.heap.size wr (wr.alloc o))).cell (p := ⟨0, 3, none⟩) (World.block_lt_of_cell? wr _ g0)).trans g0
              rw [e0] at hx0
              go_wp2_with (first | (go_at_call 37; refine (impl_usesCounter.calls 3 false _ rfl).mono ?_; rintro e w2 ⟨rfl, ⟨⟨nd, rfl⟩⟩⟩) | (go_at_call 38; refine (impl_usesTarget.calls 3 false _ rfl).mono ?_; rintro e w2 ⟨rfl, ⟨⟨nd, rfl⟩⟩⟩) | (go_at_call 30; refine (Itoa_it _ (by assumption) (by assumption) _).mono ?_; rintro e w2 ⟨rfl, rfl⟩))
              go_roundg k1
              case measure => have := HK1.out; omega
              case rel => exact ⟨_, _, rfl, rfl, H', ⟨by have := HK1.out; omega⟩, ⟨by repeat (first | (with_reducible first | exact HB.out | apply below_alloc | apply pw_below_drewN | apply below_drew1) | exact HB.out)⟩⟩
            rw [if_neg e0] at H
            exact absurd H (by simp)
          · rw [if_neg c3] at H
            exact absurd H (by simp)
        · rw [if_neg c2] at H
          have c2b : decide (i < (l.length : Int)) = false := decide_eq_false c2
          clear c2
          obtain rfl := Option.some.inj H
          go_wp2
          go_ret2
          exact ⟨by first | rfl | simp [Act.put, i64_w], by repeat (first | (with_reducible first | exact HB.out | apply below_alloc | apply pw_below_drewN | apply below_drew1) | exact HB.out)⟩
end Go.Proofs.YtbcphkblieeemaaDoor.P
