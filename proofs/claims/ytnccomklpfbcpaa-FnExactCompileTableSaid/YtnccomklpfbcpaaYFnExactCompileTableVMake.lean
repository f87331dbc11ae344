/- The walk of the reference's cbMake (printed by gen_cb.py). -/
import Derived.Test.YtnccomklpfbcpaaZFnExactCompileTable0
import Derived.Test.YtnccomklpfbcpaaYFnExactCompileTableVRound
namespace Go.Proofs.Ytnccomklpfbcpaa.P
open Go.RowKit Go.Proofs.YtnccomklpfbcpaaW.PrintWords Go.Proofs.YtnccomklpfbcpaaW.PrintLast Go.Proofs.YtnccomklpfbcpaaW.PrintMore Go.Proofs.Ytnccomklpfbcpaa.Own Go.Proofs.Ytnccomklpfbcpaa.A
set_option linter.unusedVariables false
set_option linter.unusedSimpArgs false
theorem iota_snoc : ∀ (n : Nat) (m : Int), iota m (n + 1) = iota m n ++ [m + (n : Int)] := by
  intro n
  induction n with
  | zero => intro m; simp [iota]
  | succ n ih =>
    intro m
    rw [iota, ih (m + 1), iota, List.cons_append]
    congr 2
    simp; omega
/-- What is made: a box with the values, the entries, the cells and the rows. -/
def CbMade (w : World) (n : Nat) (Q : Nat × List Int × List Int × List S72) (e_ : Ending) (w' : World) : Prop := ∃ (g gv cv ge ce : Nat) (vc : Value), e_ = .returned (.pointer (some ⟨g, 0, none⟩)) ∧ Cb w w' g (.slice (some ⟨gv, 0, none⟩) n cv) (.slice (some ⟨ge, 0, none⟩) n ce) vc Q.2.1 Q.2.2.1 Q.2.2.2 (Q.1 : Int)
set_option maxHeartbeats 8000000 in
set_option maxRecDepth 100000 in
theorem cbMake_own (a0 : Int) (A1 : Option Addr) (c1 : Nat) (vs : List Int) (w : World) (hC : Kd.C (Kd.int .i64) w A1 vs.length vs) (hc : vs.length ≤ c1) (hn1 : 1 ≤ vs.length) (hn8 : vs.length ≤ 8) (hW : within 9 0 vs = true) :
    Calls Try.prog 34 #[.agg #[.int .i64 a0, .slice A1 vs.length c1]] w fun e_ w' => CbMade w vs.length (roundsL 9 0 vs (iota 0 vs.length) []) e_ w' := by
  have hu28 := Try.underlying28
  have hu48 := Try.underlying48
  obtain ⟨n, hn⟩ : ∃ n, n = vs.length := ⟨_, rfl⟩
  have HCL := Aside0.mk hC
  have HC := Aside0.mk hc
  have HN := Aside0.mk hn
  have OWN := Aside0.mk (l1Own vs (by omega))
  have HW := Aside0.mk hW
  obtain ⟨Q, hQ⟩ : ∃ Q, Q = roundsL 9 0 vs (iota 0 vs.length) [] := ⟨_, rfl⟩
  rw [← hQ]
  have HQ := Aside0.mk hQ
  have B0 := Aside0.mk (blk_new w (.cells #[.int .i64 a0, .slice A1 vs.length c1] 28))
  have HB0 := Aside0.mk (below_alloc (Below.refl w.heap.size w) (.cells #[.int .i64 a0, .slice A1 vs.length c1] 28))
  have hv1 : 0 < vs.length := by omega
  clear hC hc hQ hW hn
  go_enter Try.func34, Try.ntmps34
  go_wp2_with (first
    | (go_at_call 53; (with_reducible refine (spec_l1Own.calls _ _ vs vs _ (Kd.C_below HCL.out HB0.out) HC.out OWN.out).mono ?_); rintro e w2 ⟨vo, rfl, ho, hb⟩; obtain ⟨gv, cv, eo, _, _, _⟩ := Kd.R_form ho hv1; subst eo; have HO := Aside0.mk (Kd.R_lower ho HB0.out.size); have B2 := Aside0.mk (blk_below B0.out hb); have HB2 := Aside0.mk (below_step HB0.out hb); clear ho hb HB0 B0)
    | ((with_reducible refine gate_dst (N := 9) rfl ?_); refine box_event ?hg (N := 9) ?hd (cs := #[.slice (some ⟨gv, 0, none⟩) vs.length cv, .slice none 0 0, .slice none 0 0, .int .i64 0]) (t := 48) ?hr ?_; (case hd => rfl); (case hg => rfl); (case hr => first | (go_simp; done) | (go_simp; rfl)); intro g hg w3 hbox hb; have LG : Aside0 (w.heap.size ≤ g) := ⟨by rw [hg]; exact HB2.out.size⟩; have HS : Aside0 (Cb w w3 g (.slice (some ⟨gv, 0, none⟩) vs.length cv) (.slice none 0 0) (.slice none 0 0) vs [] [] 0) := ⟨⟨hbox, Kd.R_mono (Kd.R_below HO.out hb) (fun k _ => by simp [Value.ownBlock]), Kd.R_nil _ _ _ _ _, Kd.R_nil _ _ _ _ _, LG.out, below_step HB2.out hb⟩⟩; have B3 := Aside0.mk (blk_below B2.out hb); clear hg hbox hb LG HO HB2 B2; have z1 : w3.cell? ⟨w.heap.size, 1, none⟩ = some (.slice A1 vs.length c1) := (blk_cell B3.out 1).trans rfl)
    | fail)
  go_loopw [13] (fun v13 wr => ∃ (i : Nat) (ve : Value), v13 = .int .i64 i ∧ i ≤ vs.length ∧ Aside0 (Cb w wr g (.slice (some ⟨gv, 0, none⟩) vs.length cv) ve (.slice none 0 0) vs (iota 0 i) [] 0)) (fun i _ => vs.length - (intOf i).toNat)
  case atStart => exact ⟨0, .slice none 0 0, rfl, Nat.zero_le _, HS⟩
  case round =>
    clear HS B3 z1
    obtain ⟨i, ve, rfl, hi, HS⟩ := hrel
    obtain ⟨Ae, ce0, ee⟩ := Kd.R_slice HS.out.en
    subst ee
    have z1 : wr.cell? ⟨g, 1, none⟩ = some (.slice Ae (iota 0 i).length ce0) := (blk_cell HS.out.box 1).trans rfl
    have hil : (iota 0 i).length = i := iota_length i 0
    have HIL := Aside0.mk hil
    have hil8 : (iota 0 i).length ≤ 8 := by omega
    obtain ⟨ys, hys⟩ : ∃ y_, y_ = iota 0 i := ⟨_, rfl⟩
    rw [← hys] at HS z1 hil8
    have HYS := Aside0.mk hys
    clear hil hys
    by_cases hlt : i < vs.length
    · have fz1 := blk_frozen HS.out.box 1
      go_wp2_with (first
        | ((with_reducible refine gate_builtin (b := .append) (xs := #[.tmp 20, .tmp 22]) rfl ?_); at_builtin; refine Kd.R_append (Kd.int .i64) (w0 := w) w.heap.size rfl (.tmp 20) (.tmp 22) 22 3 (.int .i64 0) 8 rfl Try.underlying22 info3 rfl (by decide) (by omega) (.slice Ae ys.length ce0) ys (i : Int) [.int .i64 (i : Int)] (fun k_ => some k_ ≠ (Value.slice (some ⟨gv, 0, none⟩) vs.length cv).ownBlock) (fun _ => False) rfl rfl ?aP (fun _ hk => hk.elim) ?aF ?aO ?aB ?aS ?aL ?_; (case aP => exact rfl); (case aF => exact (fun k_ hk e_ => by have := Kd.R_lt HS.out.va k_ e_.symm; omega)); (case aO => exact Kd.R_reok rfl HS.out.en (fun k_ hk e_ => HS.out.va.1 k_ e_.symm hk.symm)); (case aB => exact HS.out.be); (case aS => exact HS.out.be.size); (case aL => omega); intro v23 w9 ho hb hg hat; obtain ⟨A9, c9, e9⟩ := Kd.R_slice ho; subst e9; obtain ⟨hx9, hc9⟩ := HS.out.appE ho hb hg; have HC9 : Aside0 (Cb w (w9.setCell ⟨g, 1, none⟩ (.slice A9 (ys.length + 1) c9)) g (.slice (some ⟨gv, 0, none⟩) vs.length cv) (.slice A9 (ys.length + 1) c9) (.slice none 0 0) vs (ys ++ [(i : Int)]) [] 0) := ⟨by rw [List.length_append] at hc9; exact hc9⟩; have y1 := (blk_cell hx9 1).trans rfl; have fy1 := blk_frozen hx9 1; clear ho hb hg hat HS hx9 hc9 z1 fz1)
        | fail)
      go_roundw
      case rel => first | exact ⟨i + 1, _, by go_num, by omega, ⟨by rw [iota_snoc, ← HYS.out, Int.zero_add]; exact HC9.out⟩⟩ | ((repeat apply Exists.intro); exact ⟨⟨i + 1, _, by go_num, by omega, ⟨by rw [iota_snoc, ← HYS.out, Int.zero_add]; exact HC9.out⟩⟩, rfl⟩)
      case measure => simp [intOf]; omega
    · obtain rfl : i = vs.length := by omega
      have hyl : ys.length = vs.length := by rw [HYS.out]; exact HIL.out
      have h_ := HS.out
      rw [hyl] at h_
      obtain ⟨ge, ce, ee, _, _, _⟩ := Kd.R_form h_.en (by omega)
      rw [hyl] at ee
      cases ee
      rw [HYS.out] at h_
      have HM := Aside0.mk h_
      have HILn : Aside0 ((iota 0 vs.length).length = vs.length) := HIL
      clear HS z1 h_ HIL
      go_wp2_with fail
      refine (round_own w wr g gv cv ge ce0 vs.length (.slice none 0 0) vs (iota 0 vs.length) [] 0 HM.out rfl HILn.out hn1 hn8 (by omega) (by simp)).mono ?_
      rintro e_ w4 ⟨rfl, vc, h4⟩
      rw [Nat.zero_mod, List.nil_append] at h4
      obtain ⟨p, hp⟩ : ∃ p, p = passL vs.length 0 vs (iota 0 vs.length) (List.replicate vs.length ⟨0, 0⟩) := ⟨_, rfl⟩
      rw [← hp] at h4
      have hl := passL_len vs.length 0 vs (iota 0 vs.length) (List.replicate vs.length ⟨0, 0⟩)
      rw [← hp, HILn.out, List.length_replicate] at hl
      have h4' := h4
      have HS4 := Aside0.mk h4'
      have HF : Aside0 ((if srtL p.1 = true then (1, p.1, p.2.1, p.2.2) else roundsL 8 1 p.1 p.2.1 p.2.2) = Q) := ⟨by rw [HQ.out, hp]; rfl⟩
      have HWN : Aside0 (srtL p.1 = true ∨ within 8 1 p.1 = true) := ⟨by have h_ := HW.out; rw [within, Bool.or_eq_true, Nat.zero_mod, ← passL_v vs.length 0 vs (iota 0 vs.length) (List.replicate vs.length ⟨0, 0⟩), ← hp] at h_; exact h_⟩
      have HL := Aside0.mk hl
      clear h4 h4' hp hl HQ HW HM
      go_wp2_with fail
      go_loopg [31] 8 (fun kq v31 wr => ∃ (r : Nat) (v e : List Int) (cs : List S72) (vc : Value), r ≤ 100 ∧ r + kq ≤ 100 ∧ Aside0 (v.length = vs.length ∧ e.length = vs.length ∧ cs.length ≤ 8 * r) ∧ Aside0 ((if srtL v = true then (r, v, e, cs) else roundsL kq r v e cs) = Q) ∧ Aside0 (srtL v = true ∨ within kq r v = true) ∧ Aside0 (Cb w wr g (.slice (some ⟨gv, 0, none⟩) vs.length cv) (.slice (some ⟨ge, 0, none⟩) vs.length ce0) vc v e cs (r : Int)))
      case atStart => exact ⟨1, p.1, p.2.1, p.2.2, vc, by omega, by omega, ⟨HL.out.1, HL.out.2.1, by have := HL.out.2.2; omega⟩, HF, HWN, HS4⟩
      case round =>
        clear HF HWN HS4 HL
        obtain ⟨r, v, e, cs, vc2, hr, hrk, HL, HF, HWN, HS⟩ := hrel
        by_cases hs : srtL v = true
        · have HSR := Aside0.mk hs
          have hf := HF.out
          rw [if_pos hs] at hf
          subst hf
          clear hs HF HWN
          go_wp2_with ((go_at_call 55; (with_reducible refine (sorted_own w _ g gv cv vs.length _ vc2 v e cs r true HS.out HL.out.1 hn1 hn8 HSR.out).mono ?_); rintro e_ w5 ⟨rfl, hb⟩; have HS5 := Aside0.mk (HS.out.below hb); clear hb))
          go_ret
          exact ⟨g, gv, cv, ge, ce0, vc2, rfl, HS5.out⟩
        · have HSR := Aside0.mk (Bool.eq_false_iff.mpr hs)
          have hf := HF.out
          have hw := HWN.out.resolve_left hs
          rw [if_neg hs] at hf
          obtain ⟨d, rfl⟩ : ∃ d, gk = d + 1 := by
            cases gk with
            | zero => simp [within] at hw
            | succ d => exact ⟨d, rfl⟩
          obtain ⟨p, hp⟩ : ∃ p, p = passL vs.length (r % 2) v e (List.replicate vs.length ⟨0, 0⟩) := ⟨_, rfl⟩
          have hl := passL_len vs.length (r % 2) v e (List.replicate vs.length ⟨0, 0⟩)
          rw [← hp, HL.out.1, HL.out.2.1, List.length_replicate] at hl
          have HF2 : Aside0 ((if srtL p.1 = true then (r + 1, p.1, p.2.1, cs ++ p.2.2) else roundsL d (r + 1) p.1 p.2.1 (cs ++ p.2.2)) = Q) := ⟨by rw [← hf, roundsL, HL.out.1, hp]⟩
          have HW2 : Aside0 (srtL p.1 = true ∨ within d (r + 1) p.1 = true) := ⟨by rw [within, Bool.or_eq_true, HL.out.1, ← passL_v vs.length (r % 2) v e (List.replicate vs.length ⟨0, 0⟩), ← hp] at hw; exact hw⟩
          have HL2 : Aside0 (p.1.length = vs.length ∧ p.2.1.length = vs.length ∧ (cs ++ p.2.2).length ≤ 8 * (r + 1)) := ⟨⟨hl.1, hl.2.1, by rw [List.length_append]; have := HL.out.2.2; omega⟩⟩
          have HP := Aside0.mk hp
          have hcs8 : cs.length ≤ 100000 := by have := HL.out.2.2; omega
          clear hs hf hw hl hp HF HWN
          go_wp2_with (first
            | (go_at_call 55; (with_reducible refine (sorted_own w _ g gv cv vs.length _ vc2 v e cs r false HS.out HL.out.1 hn1 hn8 HSR.out).mono ?_); rintro e_ w5 ⟨rfl, hb⟩; have HS5 := Aside0.mk (HS.out.below hb); clear hb)
            | (go_at_call 54; (with_reducible refine (round_own w _ g gv cv ge ce0 vs.length vc2 v e cs r HS5.out HL.out.1 HL.out.2.1 hn1 hn8 (by omega) hcs8).mono ?_); rintro e_ w6 ⟨rfl, vc3, h6⟩; rw [← HP.out] at h6; have HS6 := Aside0.mk h6; clear h6)
            | fail)
          go_roundg d
          case measure => omega
          case rel => exact ⟨r + 1, p.1, p.2.1, cs ++ p.2.2, vc3, by omega, by omega, HL2, HF2, HW2, HS6⟩
end Go.Proofs.Ytnccomklpfbcpaa.P
