/- A marble alone on a board, as the reference lets it fall: what the printed functions come to. -/
import Derived.Test.YtnccomklpfbcpaaYFnExactReadSymmetricPx65
import Derived.Test.YtnccomklpfbcpaaYFnExactReadSymmetricABase
import Derived.Test.YtnccomklpfbcpaaYFnExactReadSymmetricVGg
namespace Go.Proofs.Ytnccomklpfbcpaa.A
open Go.RowKit Go.Proofs.YtnccomklpfbcpaaW.PrintWords Go.Proofs.YtnccomklpfbcpaaW.PrintLast Go.Proofs.YtnccomklpfbcpaaW.PrintMore Go.Proofs.Ytnccomklpfbcpaa.P Go.Proofs.Ytnccomklpfbcpaa.T
set_option linter.unusedVariables false
set_option linter.unusedSimpArgs false

theorem goesC_lo {x : S72} {side : Int} (h : CellOk x.f0 x.f1) (hs : -1 ≤ side ∧ side ≤ 1) : -1 ≤ goesC x side ∧ goesC x side ≤ 1 := by
  have h2 : x.f1 = 0 ∨ x.f1 = 1 := by
    rcases h.2 with h | h
    · exact .inl h
    · exact .inr h.1
  unfold goesC
  by_cases h1 : x.f0 = 1
  · rw [if_pos h1]; omega
  rw [if_neg h1]
  by_cases h2' : x.f0 = 2
  · rw [if_pos h2']; omega
  rw [if_neg h2']
  by_cases h3 : x.f0 = 3 ∨ x.f0 = 6
  · rw [if_pos h3]; omega
  rw [if_neg h3]
  by_cases h4 : x.f0 = 4
  · rw [if_pos h4]; omega
  · rw [if_neg h4]; omega
theorem groupsL_len (R C : Nat) (cs : List S72) : ∀ (d i : Nat) (g : Int) (out : List Int), 0 ≤ g → i + d ≤ R * C → out.length = R * C → (groupsL R C cs d i g out).length = R * C := by
  intro d
  induction d with
  | zero => intro i g out _ _ h; exact h
  | succ d ih =>
    intro i g out hg hi h
    rw [groupsL]
    by_cases hc : gearB (cs.getD i ⟨0, 0⟩) = true ∧ out.getD i 0 < 0
    · rw [if_pos hc]
      refine ih (i + 1) (g + 1) _ (by omega) (by omega) ?_
      have h1 := negs_set out i g hg (by omega) hc.2
      have h2 := negs_le out
      exact bfsL_len R C cs g hg (R * C) 0 (out.set i g) [i] (by rw [List.length_set]; exact h) (fun x hx => by simp at hx; omega) (by rw [List.length_singleton]; omega)
    · rw [if_neg hc]
      exact ih (i + 1) g out hg (by omega) h
theorem grpL_len (R C : Nat) (cs : List S72) : (grpL R C cs).length = R * C := groupsL_len R C cs (R * C) 0 0 _ (Int.le_refl _) (by omega) (by rw [List.length_replicate])
theorem bo_nat {R cn : Nat} {cs : List S72} (h : BoOk R cn cs) : cs.length = R * cn := by have h_ := h.2.2.1; rw [← Int.natCast_mul] at h_; exact Int.ofNat.inj h_
theorem wrap_at {R cn row : Nat} {col : Int} (hR : row < R) (hR10 : R ≤ 10) (hc9 : cn ≤ 9) (h0 : 0 ≤ col) (h1 : col < (cn : Int)) : wrap64 (wrap64 ((row : Int) * (cn : Int)) + col) = ((row * cn + col.toNat : Nat) : Int) ∧ row * cn + col.toNat < R * cn := by
  have h2 : row * cn ≤ 10 * 9 := Nat.mul_le_mul (by omega) hc9
  have h3 : ((row : Int) * (cn : Int)) = ((row * cn : Nat) : Int) := (Int.natCast_mul _ _).symm
  have h4 : (row + 1) * cn ≤ R * cn := Nat.mul_le_mul_right _ hR
  rw [Nat.succ_mul] at h4
  have a1 : wrap64 ((row * cn : Nat) : Int) = ((row * cn : Nat) : Int) := wrap_id (by omega) (by omega)
  have a2 : wrap64 (((row * cn : Nat) : Int) + col) = ((row * cn : Nat) : Int) + col := wrap_id (by clear a1; omega) (by clear a1; omega)
  rw [h3, a1, a2]
  clear a1 a2
  constructor <;> omega
theorem paGoes (x : S72) (side : Int) (h : CellOk x.f0 x.f1) (hs : -1 ≤ side ∧ side ≤ 1) (h5 : x.f0 ≠ 5) : Ev (fun k => spec_paGoes.f k x.f0 x.f1 side) (goesC x side) := by
  have h2 : x.f1 = 0 ∨ x.f1 = 1 := by
    rcases h.2 with h | h
    · exact .inl h
    · exact .inr h.1
  have w1 : wrap64 (2 * x.f1) = 2 * x.f1 := wrap_id (by omega) (by omega)
  have w2 : wrap64 (2 * x.f1 - 1) = 2 * x.f1 - 1 := wrap_id (by clear w1; omega) (by clear w1; omega)
  have w3 : wrap64 (-side) = -side := wrap_id (by clear w1 w2; omega) (by clear w1 w2; omega)
  clear h2
  unfold spec_paGoes.f goesC
  by_cases h1 : x.f0 = 1
  · rw [if_pos h1]; exact ev_pos h1 (ev_const rfl)
  rw [if_neg h1]
  refine ev_neg h1 ?_
  by_cases h2 : x.f0 = 2
  · rw [if_pos h2]; exact ev_pos h2 (ev_const rfl)
  rw [if_neg h2]
  refine ev_neg h2 ?_
  by_cases h3 : x.f0 = 3
  · rw [if_pos (show x.f0 = 3 ∨ x.f0 = 6 from .inl h3)]
    refine ev_pos h3 (Ev.step (fun k => spec_paGoes.j0.eq_2 ..) (ev_pos (by simp [h3]) (ev_const ?_)))
    rw [w1, w2]
  refine ev_neg h3 (Ev.step (fun k => spec_paGoes.j0.eq_2 ..) ?_)
  by_cases h6 : x.f0 = 6
  · rw [if_pos (show x.f0 = 3 ∨ x.f0 = 6 from .inr h6)]
    refine ev_pos (by simp [h6]) (ev_const ?_)
    rw [w1, w2]
  rw [if_neg (show ¬ (x.f0 = 3 ∨ x.f0 = 6) from fun h => h.elim h3 h6)]
  refine ev_neg (by simp [h6]) ?_
  by_cases h4 : x.f0 = 4
  · rw [if_pos h4, if_pos h4]
    exact ev_const (by rw [w3])
  · rw [if_neg h4, if_neg h4]
    exact ev_const rfl
theorem flGo_loop (R cn : Nat) (l0 : List S72) (gs : List Int) (hR10 : R ≤ 10) (hc9 : cn ≤ 9) : ∀ (d row : Nat) (col side : Int) (cs : List S72) (way : List (List Int)), row + d = R → BoOk R cn cs → gs.length = R * cn → 0 ≤ col → col < (cn : Int) → (-1 ≤ side ∧ side ≤ 1) → way.length ≤ row →
    ∃ way', Ev (fun k => spec_flGo.l0 k gs col way side (row : Int) (R : Int) (cn : Int) l0 (R : Int) (cn : Int) cs) ((goC cn gs d row col side cs).1.1, (goC cn gs d row col side cs).1.2.1, (goC cn gs d row col side cs).1.2.2, (R : Int), (cn : Int), (goC cn gs d row col side cs).2, way') := by
  intro d
  induction d with
  | zero =>
    intro row col side cs way hr hb hg h0 h1 hs hw
    obtain rfl : row = R := by omega
    exact ⟨way, Ev.step (fun k => spec_flGo.l0.eq_2 ..) (ev_neg (by omega) (ev_const rfl))⟩
  | succ d ih =>
    intro row col side cs way hr hb hg h0 h1 hs hw
    have hlen := bo_nat hb
    obtain ⟨hwa, hwl⟩ := wrap_at (R := R) (row := row) (by omega) hR10 hc9 h0 h1
    have HWA := Aside0.mk hwa
    clear hwa
    obtain ⟨i, hi⟩ : ∃ i, i = row * cn + col.toNat := ⟨_, rfl⟩
    rw [← hi] at HWA hwl
    obtain ⟨x, hx⟩ : ∃ x, x = cs.getD i ⟨0, 0⟩ := ⟨_, rfl⟩
    have hok : CellOk x.f0 x.f1 := by rw [hx]; exact getD_ok hb.2.2.2 i
    have hlo := goesC_lo hok hs
    have q1 : (0 : Int) ≤ (i : Int) := Int.natCast_nonneg i
    have q2 : (i : Int) < (cs.length : Int) := by rw [hlen]; exact Int.ofNat_lt.2 hwl
    have q3 : cs.length ≤ 1000 := Nat.le_trans hb.len (by decide)
    have hat : spec_boAt.f (R : Int) (cn : Int) cs (row : Int) col = some (x.f0, x.f1) := by
      unfold spec_boAt.f
      rw [HWA.out, if_pos q1, if_pos q2, rdc, ← hx]
    have hpass : ∀ k, spec_flPass.f k (R : Int) (cn : Int) cs gs (wrap64 (wrap64 ((row : Int) * (cn : Int)) + col)) = some (passC gs cs i) := by
      intro k
      rw [HWA.out]
      unfold spec_flPass.f
      rw [if_pos ⟨⟨q3, hb.2.2.2⟩, hg.trans hlen.symm, q1, q2⟩, Int.toNat_natCast]
    have hgo : goC cn gs (d + 1) row col side cs = if x.f0 = 5 then ((2, (row : Int), col), cs) else if 0 ≤ col + goesC x side ∧ col + goesC x side ≤ (cn : Int) - 1 then goC cn gs d (row + 1) (col + goesC x side) (-goesC x side) (passC gs cs i) else ((3, (row : Int), col + goesC x side), passC gs cs i) := by
      rw [goC]; simp only [← hi, ← hx]
    have p1 : (row : Int) < (R : Int) := by clear hgo hat hpass; omega
    have p2 : way.length < 5864062014805 := by clear hgo hat hpass; omega
    have p3 : (way ++ [[(row : Int), col]]).length ≤ row + 1 := by rw [List.length_append, List.length_singleton]; exact Nat.succ_le_succ hw
    have p4 : row + 1 + d = R := by clear hgo hat hpass; omega
    have p5 : -1 ≤ -goesC x side ∧ -goesC x side ≤ 1 := by clear hgo hat hpass; omega
    have p6 : col + goesC x side ≤ (cn : Int) - 1 → col + goesC x side < (cn : Int) := fun h => by clear hgo hat hpass; omega
    have e1 := Aside0.mk (show wrap64 (col + goesC x side) = col + goesC x side from wrap_id (by clear hgo hat hpass p6; omega) (by clear hgo hat hpass p6; omega))
    have e2 := Aside0.mk (show wrap64 ((cn : Int) - 1) = (cn : Int) - 1 from wrap_id (by clear hgo hat hpass p6; omega) (by clear hgo hat hpass p6; omega))
    have e3 := Aside0.mk (show wrap64 (-goesC x side) = -goesC x side from wrap_id (by clear hgo hat hpass p6; omega) (by clear hgo hat hpass p6; omega))
    have e4 := Aside0.mk (show wrap64 ((row : Int) + 1) = ((row + 1 : Nat) : Int) from (wrap_id (by clear hgo hat hpass p6; omega) (by clear hgo hat hpass p6; omega)).trans rfl)
    have hat0 : spec_boAt.f (R : Int) (cn : Int) cs (row : Int) col = some (x.f0, x.f1) := hat
    by_cases h5 : x.f0 = 5
    · rw [hgo, if_pos h5]
      refine ⟨way ++ [[(row : Int), col]], Ev.step (fun k => spec_flGo.l0.eq_2 ..) (ev_pos p1 (ev_pos p2 (ev_bindc rfl (ev_bindc hat (ev_pos h5 (ev_const rfl))))))⟩
    · rw [hgo, if_neg h5]
      by_cases hin : 0 ≤ col + goesC x side ∧ col + goesC x side ≤ (cn : Int) - 1
      · rw [if_pos hin]
        obtain ⟨way', hwy⟩ := ih (row + 1) (col + goesC x side) (-goesC x side) (passC gs cs i) (way ++ [[(row : Int), col]]) p4 (passC_bo hb) hg hin.1 (p6 hin.2) p5 p3
        refine ⟨way', Ev.step (fun k => spec_flGo.l0.eq_2 ..) (ev_pos p1 (ev_pos p2 (ev_bindc rfl (ev_bindc hat (ev_neg h5 (ev_bind (paGoes x side hok hs h5) ?_))))))⟩
        refine ev_bind ⟨0, fun k _ => hpass k⟩ ?_
        rw [e1.out, e2.out, e3.out, e4.out]
        refine ev_bindc (in_f _ _ _) (ev_pos (decide_eq_true hin) ?_)
        exact hwy
      · rw [if_neg hin]
        refine ⟨way ++ [[(row : Int), col]], Ev.step (fun k => spec_flGo.l0.eq_2 ..) (ev_pos p1 (ev_pos p2 (ev_bindc rfl (ev_bindc hat (ev_neg h5 (ev_bind (paGoes x side hok hs h5) ?_))))))⟩
        refine ev_bind ⟨0, fun k _ => hpass k⟩ ?_
        rw [e1.out, e2.out]
        refine ev_bindc (in_f _ _ _) (ev_neg (by rw [decide_eq_true_eq]; exact hin) (ev_const rfl))
theorem flGoE (R cn : Nat) (cs : List S72) (col : Int) (hb : BoOk R cn cs) (h0 : 0 ≤ col) (h1 : col < (cn : Int)) :
    ∃ way', Ev (fun k => spec_flGo.f k (R : Int) (cn : Int) cs (grpL R cn cs) col) ((fallL R cn cs col).1.1, (fallL R cn cs col).1.2.1, (fallL R cn cs col).1.2.2, (R : Int), (cn : Int), (fallL R cn cs col).2, way') := by
  obtain ⟨way', hw⟩ := flGo_loop R cn cs (grpL R cn cs) (by have := hb.1.2; omega) (by have := hb.2.1.2; omega) R 0 col 0 cs [] (by omega) hb (grpL_len R cn cs) h0 h1 (by omega) (by simp)
  refine ⟨way', ?_⟩
  unfold spec_flGo.f
  refine ev_bindc (a := ((R : Int), (cn : Int), cs)) ?_ hw
  unfold spec_boOwn.f
  rw [Option.bind_some, if_pos (by have := hb.len; simp; omega)]; rfl
end Go.Proofs.Ytnccomklpfbcpaa.A
