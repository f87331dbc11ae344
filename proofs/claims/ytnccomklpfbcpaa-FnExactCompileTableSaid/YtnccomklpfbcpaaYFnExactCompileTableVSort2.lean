/- The walk of the program's sortingBoard (printed by gen_cb.py). -/
import Derived.Test.YtnccomklpfbcpaaYFnExactCompileTablePx17
import Derived.Test.YtnccomklpfbcpaaYFnExactCompileTableVSb
import Derived.Test.YtnccomklpfbcpaaYFnExactCompileTableVMake
import Derived.IntWalk
namespace Go.Proofs.Ytnccomklpfbcpaa.P
open Go.RowKit Go.Proofs.YtnccomklpfbcpaaW.PrintWords Go.Proofs.YtnccomklpfbcpaaW.PrintLast Go.Proofs.YtnccomklpfbcpaaW.PrintMore Go.Proofs.Ytnccomklpfbcpaa.Own Go.Proofs.Ytnccomklpfbcpaa.A
set_option linter.unusedVariables false
set_option linter.unusedSimpArgs false
theorem isSorted_loop (v : List Int) (hl : v.length ≤ 1000) : ∀ (d c : Nat), v.length ≤ c + d → c ≤ v.length → Ev (fun k => impl_isSorted.l0 k v ((c : Int) + 1)) (srtF d c v) := by
  intro d
  induction d with
  | zero =>
    intro c h1 h2
    exact Ev.step (fun k => impl_isSorted.l0.eq_2 ..) (T.ev_neg (by omega) (T.ev_const rfl))
  | succ d ih =>
    intro c h1 h2
    unfold srtF
    by_cases h : c + 1 < v.length
    · rw [if_pos h]
      have hw : wrap64 ((c : Int) + 1 - 1) = (c : Int) := by unfold wrap64; omega
      have hw2 : wrap64 ((c : Int) + 1 + 1) = ((c + 1 : Nat) : Int) + 1 := by unfold wrap64; omega
      refine Ev.step (fun k => impl_isSorted.l0.eq_2 ..) (T.ev_pos (by omega) (T.ev_pos (by omega) ?_))
      rw [hw]
      refine T.ev_pos (by omega) (T.ev_pos (by omega) ?_)
      rw [show (c : Int) + 1 = ((c + 1 : Nat) : Int) by omega]
      by_cases hb : rd v ((c + 1 : Nat) : Int) < rd v (c : Int)
      · rw [if_pos hb]; exact T.ev_pos hb (T.ev_const rfl)
      · rw [if_neg hb]
        refine T.ev_neg hb ?_
        rw [show wrap64 (((c + 1 : Nat) : Int) + 1) = ((c + 1 : Nat) : Int) + 1 by unfold wrap64; omega]
        exact ih (c + 1) (by omega) (by omega)
    · rw [if_neg h]
      exact Ev.step (fun k => impl_isSorted.l0.eq_2 ..) (T.ev_neg (by omega) (T.ev_const rfl))
theorem rd_mem0 {l : List Int} {i : Nat} (h : i < l.length) : rd l (i : Int) ∈ l := by
  rw [show rd l (i : Int) = l[i] by simp [rd, h]]
  exact List.getElem_mem h
theorem isSortedE (v : List Int) (hl : v.length ≤ 1000) : Ev (fun k => impl_isSorted.f k v) (srtL v) := by
  unfold impl_isSorted.f srtL
  have := isSorted_loop v hl v.length 0 (by omega) (by omega)
  simpa using this
/-- What is made: the board, the split, the entries. -/
def SbMade (w : World) (n : Nat) (sp : Int) (Q : Nat × List Int × List Int × List S72) (e_ : Ending) (w' : World) : Prop := ∃ (vc ve : Value), e_ = .returned (.tuple #[.agg #[.int .i64 (Q.1 : Int), .int .i64 (n : Int), vc], .int .i64 sp, ve]) ∧ Kd.R k72 72 w' w.heap.size (fun _ => True) vc Q.2.2.2 ∧ Kd.R (Kd.int .i64) 3 w' w.heap.size (fun _ => True) ve Q.2.2.1 ∧ Below w.heap.size w w'
set_option maxHeartbeats 16000000 in
set_option maxRecDepth 100000 in
theorem sortingBoard_own (a0 : Int) (A1 : Option Addr) (c1 : Nat) (vs : List Int) (w : World) (hC : Kd.C (Kd.int .i64) w A1 vs.length vs) (hc : vs.length ≤ c1) (hn1 : 1 ≤ vs.length) (hn8 : vs.length ≤ 8) (hbit : ∀ y ∈ vs, y = 0 ∨ y = 1) (hW : within 9 0 vs = true) :
    Calls Try.prog 36 #[.agg #[.int .i64 a0, .slice A1 vs.length c1]] w fun e_ w' => SbMade w vs.length (zerosL vs) (roundsL 9 0 vs (iota 0 vs.length) []) e_ w' := by
  have hu28 := Try.underlying28
  have hu39 := Try.underlying39
  have hu72 := Try.underlying72
  have HCL := Aside0.mk hC
  have HC := Aside0.mk hc
  have HW := Aside0.mk hW
  have HBT := Aside0.mk hbit
  obtain ⟨Q, hQ⟩ : ∃ Q, Q = roundsL 9 0 vs (iota 0 vs.length) [] := ⟨_, rfl⟩
  rw [← hQ]
  have HQ := Aside0.mk hQ
  have hsz1 : (w.alloc (.cells #[.int .i64 a0, .slice A1 vs.length c1] 28)).heap.size = w.heap.size + 1 := Array.size_push _
  have B0 := Aside0.mk (blk_alloc (blk_new w (.cells #[.int .i64 a0, .slice A1 vs.length c1] 28)) (.cells #[.int .i64 0, .int .i64 0, .slice none 0 0] 39))
  have BZ := Aside0.mk (blk_new (w.alloc (.cells #[.int .i64 a0, .slice A1 vs.length c1] 28)) (.cells #[.int .i64 0, .int .i64 0, .slice none 0 0] 39))
  rw [hsz1] at BZ
  have HB0 := Aside0.mk (below_alloc (below_alloc (Below.refl w.heap.size w) (.cells #[.int .i64 a0, .slice A1 vs.length c1] 28)) (.cells #[.int .i64 0, .int .i64 0, .slice none 0 0] 39))
  have y1 : ((w.alloc (.cells #[.int .i64 a0, .slice A1 vs.length c1] 28)).alloc (.cells #[.int .i64 0, .int .i64 0, .slice none 0 0] 39)).cell? ⟨w.heap.size, 1, none⟩ = some (.slice A1 vs.length c1) := (blk_cell B0.out 1).trans rfl
  have hv1 : 0 < vs.length := by omega
  clear hC hc hQ hW hbit hsz1
  go_enter Try.func36, Try.ntmps36
  go_wp2_with (first
    | ((with_reducible refine gate_dst (N := 14) rfl ?_); refine Kd.R_lit (Kd.int .i64) _ 3 rfl (N := 14) rfl (xs := ([] : List Int)) (inner := []) (ok := fun _ => True) (okp := fun _ => True) ?hr (Reps.none _ _) (fun _ hk => hk) trivial (Below.refl _ _) (Nat.le_refl _) (by simp) ?_; (case hr => first | (go_simp; done) | (go_simp; rfl)); intro vl w3 ho hb _ _; have HL := Aside0.mk (Kd.R_lower ho HB0.out.size); have B3 := Aside0.mk (blk_below B0.out hb); have BZ3 := Aside0.mk (blk_below BZ.out hb); have HB3 := Aside0.mk (below_step HB0.out hb); clear ho hb HB0 B0 BZ y1; have y1 : w3.cell? ⟨w.heap.size, 1, none⟩ = some (.slice A1 vs.length c1) := (blk_cell B3.out 1).trans rfl)
    | ((with_reducible refine gate_builtin (b := .append) (xs := #[.tmp 14, .tmp 16]) rfl ?_); at_builtin; refine Kd.R_append_rows (Kd.int .i64) (w0 := w) w.heap.size rfl (.tmp 14) (.tmp 16) 22 3 (.int .i64 0) 8 rfl Try.underlying22 info3 rfl (by decide) (by omega) vl [] vs A1 vs.length c1 (fun _ => True) (fun _ => False) rfl rfl ?aO ?aR (fun _ _ h => h) (fun _ h => h.elim) (fun _ _ => trivial) ?aB ?aS ?aL ?_; (case aR => exact Kd.C_below HCL.out HB3.out); (case aO => exact HL.out); (case aB => exact HB3.out); (case aS => exact HB3.out.size); (case aL => simp; omega); intro v5 w4 ho hb hg hat; rw [List.nil_append] at ho; obtain ⟨gv, cv, eo, _, _, _⟩ := Kd.R_form ho hv1; subst eo; have HV := Aside0.mk ho; have HB4 := Aside0.mk hb; have BZ4 := Aside0.mk (blk_grown BZ3.out hg (Kd.R_ne HL.out BZ3.out (by decide))); clear ho hb hg hat HL HB3 B3 BZ3 y1)
    | ((with_reducible refine gate_dst (N := 18) rfl ?_); refine Kd.R_lit (Kd.int .i64) _ 3 rfl (N := 18) rfl (xs := ([] : List Int)) (inner := []) (ok := fun _ => True) (okp := fun _ => True) ?hr (Reps.none _ _) (fun _ hk => hk) trivial (Below.refl _ _) (Nat.le_refl _) (by simp) ?_; (case hr => first | (go_simp; done) | (go_simp; rfl)); intro v6 w5 ho hb _ _; have HE5 := Aside0.mk (Kd.R_lower ho HB4.out.size); have HV5 : Aside0 (Kd.R (Kd.int .i64) 3 w5 w.heap.size (fun k => some k ≠ v6.ownBlock) (.slice (some ⟨gv, 0, none⟩) vs.length cv) vs) := ⟨Kd.R_mono (Kd.R_elder' HV.out (Kd.R_base ho) hb) (fun _ hk => hk.2)⟩; have BZ5 := Aside0.mk (blk_below BZ4.out hb); have HB5 := Aside0.mk (below_step HB4.out hb); clear ho hb HB4 BZ4 HV)
    | fail)
  go_loopw [6, 7, 8, 9, 21] (fun v6 v7 v8 v9 v21 wr => ∃ (i : Nat) (s : Int), v21 = .int .i64 i ∧ i ≤ vs.length ∧ v7 = .int .i64 s ∧ Aside0 (s = zerosL (vs.take i)) ∧ Aside0 (Kd.R (Kd.int .i64) 3 wr w.heap.size (fun k => some k ≠ v6.ownBlock) (.slice (some ⟨gv, 0, none⟩) vs.length cv) vs) ∧ Aside0 (Kd.R (Kd.int .i64) 3 wr w.heap.size (fun _ => True) v6 (iota 0 i)) ∧ Aside0 (wr.heap[w.heap.size + 1]? = some (.cells #[.int .i64 0, .int .i64 0, .slice none 0 0] 39 (0, 0))) ∧ Aside0 (Below w.heap.size w wr)) (fun _ _ _ _ i _ => vs.length - (intOf i).toNat)
  case atStart => exact ⟨0, 0, rfl, Nat.zero_le _, rfl, ⟨by simp [zerosL]⟩, HV5, HE5, BZ5, HB5⟩
  case round =>
    clear HV5 HE5 BZ5 HB5
    obtain ⟨i, s, rfl, hi, rfl, HZ, HV, HE, BZ, HB⟩ := hrel
    obtain ⟨A6, c6, e6⟩ := Kd.R_slice HE.out
    subst e6
    have HIL := Aside0.mk (iota_length i 0)
    have hil8 : (iota 0 i).length ≤ 8 := by rw [iota_length]; omega
    obtain ⟨ys, hys⟩ : ∃ y_, y_ = iota 0 i := ⟨_, rfl⟩
    rw [← hys] at HE hil8 HV HIL ⊢
    have HYS := Aside0.mk hys
    clear hys
    by_cases hlt : i < vs.length
    · obtain ⟨x, hx⟩ : ∃ x, x = rd vs (i : Int) := ⟨_, rfl⟩
      obtain ⟨y0, _⟩ := Kd.R_celln 0 HV.out (i : Int) (by omega) (by omega)
      rw [Int.toNat_natCast] at y0
      replace y0 : wr.cell? ⟨gv, i, none⟩ = some (.int .i64 x) := by rw [hx]; exact y0
      have hxb := HBT.out x (by rw [hx]; exact rd_mem0 hlt)
      have htk : vs.take (i + 1) = vs.take i ++ [x] := by rw [hx, List.take_succ_eq_append_getElem hlt]; simp [rd, hlt]
      have hsb : 0 ≤ s ∧ s ≤ 8 := by
        have h_ := zerosL_bd (vs.take i) (fun y hy => HBT.out y (List.mem_of_mem_take hy))
        rw [← HZ.out] at h_
        have := List.length_take_le i vs
        omega
      have hsb0 := hsb.1
      have hsb1 := hsb.2
      have hx0 : 0 ≤ x := by omega
      have hx1 : x ≤ 1 := by omega
      have HZ2 : Aside0 (s + (1 - x) = zerosL (vs.take (i + 1))) := ⟨by rw [htk, zerosL_snoc, ← HZ.out]⟩
      clear hx htk hsb hxb HZ
      go_wp2_with (first
        | ((with_reducible refine gate_builtin (b := .append) (xs := #[.tmp 26, .tmp 28]) rfl ?_); at_builtin; refine Kd.R_append (Kd.int .i64) (w0 := w) w.heap.size rfl (.tmp 26) (.tmp 28) 22 3 (.int .i64 0) 8 rfl Try.underlying22 info3 rfl (by decide) (by omega) (.slice A6 ys.length c6) ys (i : Int) [.int .i64 (i : Int)] (fun k_ => some k_ ≠ (Value.slice (some ⟨gv, 0, none⟩) vs.length cv).ownBlock) (fun _ => False) rfl rfl ?aP (fun _ hk => hk.elim) ?aF ?aO ?aB ?aS ?aL ?_; (case aP => exact rfl); (case aF => exact (fun k_ hk e_ => by have := Kd.R_lt HV.out k_ e_.symm; omega)); (case aO => exact Kd.R_reok rfl HE.out (fun k_ hk e_ => HV.out.1 k_ e_.symm hk.symm)); (case aB => exact HB.out); (case aS => exact HB.out.size); (case aL => omega); intro v6n w9 ho hb hg hat; have HV2 : Aside0 (Kd.R (Kd.int .i64) 3 w9 w.heap.size (fun k => some k ≠ v6n.ownBlock) (.slice (some ⟨gv, 0, none⟩) vs.length cv) vs) := ⟨Kd.R_reok rfl (Kd.R_grown HV.out hg (fun k hk => hk)) (fun k hk e_ => ho.1 k e_.symm hk.symm)⟩; have BZ2 := Aside0.mk (blk_grown BZ.out hg (Kd.R_ne HE.out BZ.out (by decide))); have HE2 := Aside0.mk (Kd.R_mono ho (fun _ _ => trivial)); have HB2 := Aside0.mk hb; clear ho hb hg hat HV HE BZ HB y0)
        | fail)
      go_roundw
      case rel => first | exact ⟨i + 1, s + (1 - x), by go_num, by omega, rfl, HZ2, HV2, ⟨by rw [iota_snoc, ← HYS.out, Int.zero_add]; exact HE2.out⟩, BZ2, HB2⟩ | ((repeat apply Exists.intro); exact ⟨⟨i + 1, s + (1 - x), by go_num, by omega, rfl, HZ2, HV2, ⟨by rw [iota_snoc, ← HYS.out, Int.zero_add]; exact HE2.out⟩, BZ2, HB2⟩, rfl⟩)
      case measure => simp [intOf]; omega
    · obtain rfl : i = vs.length := by omega
      have hyl : ys.length = vs.length := HIL.out
      have h_ := HE.out
      rw [hyl] at h_
      obtain ⟨ge, ce, ee, _, _, _⟩ := Kd.R_form h_ (by omega)
      rw [hyl] at ee
      cases ee
      have HE2 := Aside0.mk h_
      have HS0 : Aside0 (s = zerosL vs) := ⟨by rw [HZ.out]; simp⟩
      rw [hyl] at HV
      clear HE h_ HZ HIL hil8
      rw [hyl]
      clear hyl
      go_wp2
      have HS : Aside0 (Sb w (wr.alloc (.cells #[.int .i64 0, .int .i64 (vs.length : Int), .slice none 0 0] 39)) wr.heap.size (w.heap.size + 1) (vs.length : Int) (.slice (some ⟨gv, 0, none⟩) vs.length cv) (.slice (some ⟨ge, 0, none⟩) vs.length c6) (.slice none 0 0) vs (iota 0 vs.length) [] 0) := ⟨⟨blk_new wr _, blk_alloc BZ.out _, Kd.R_alloc HV.out _, by rw [← HYS.out]; exact Kd.R_alloc HE2.out _, Kd.R_nil _ _ _ _ _, HB.out.size, Nat.ne_of_lt (blk_lt BZ.out), below_alloc HB.out _⟩⟩
      clear HV HE2 BZ HB HYS hlt hi
      generalize (wr.alloc (.cells #[.int .i64 0, .int .i64 (vs.length : Int), .slice none 0 0] 39)) = w7 at HS ⊢
      obtain ⟨g, hg⟩ : ∃ g, g = wr.heap.size := ⟨_, rfl⟩
      rw [← hg] at HS ⊢
      clear hg
      have HIN := Aside0.mk (iota_length vs.length 0)
      go_loopg [11, 12, 13] 9 (fun kq v11 v12 v13 wr => ∃ (r : Nat) (v e : List Int) (cs : List S72) (vc : Value), v11 = .int .i64 r ∧ r ≤ 100 ∧ r + kq ≤ 100 ∧ Aside0 ((v.length = vs.length ∧ e.length = vs.length ∧ cs.length ≤ 8 * r) ∧ ∀ y ∈ v, y = 0 ∨ y = 1) ∧ Aside0 ((r = 0 ∧ roundsL kq r v e cs = Q ∧ within kq r v = true) ∨ (1 ≤ r ∧ (if srtL v = true then (r, v, e, cs) else roundsL kq r v e cs) = Q ∧ (srtL v = true ∨ within kq r v = true))) ∧ Aside0 (Sb w wr g (w.heap.size + 1) (vs.length : Int) (.slice (some ⟨gv, 0, none⟩) vs.length cv) (.slice (some ⟨ge, 0, none⟩) vs.length c6) vc v e cs (r : Int)))
      case atStart => exact ⟨0, vs, iota 0 vs.length, [], .slice none 0 0, rfl, by omega, by omega, ⟨⟨rfl, HIN.out, by simp⟩, HBT.out⟩, ⟨.inl ⟨rfl, HQ.out.symm, HW.out⟩⟩, HS⟩
      case round =>
        clear HS HIN HQ HW
        obtain ⟨r, v, e, cs, vc, rfl, hr, hrk, HL, HD, HS⟩ := hrel
        by_cases hx : 1 ≤ r ∧ srtL v = true
        · obtain ⟨hr1, hs⟩ := hx
          have hf : (r, v, e, cs) = Q := by
            rcases HD.out with h_ | h_
            · omega
            · have := h_.2.1; rwa [if_pos hs] at this
          subst hf
          obtain ⟨K, hK⟩ := isSortedE v (by rw [HL.out.1.1]; omega)
          have HK : Aside0 (impl_isSorted.f K v = some true) := ⟨by rw [← hs]; exact hK K (Nat.le_refl _)⟩
          have hr0 : ((r : Int) == 0) = false := by simp; omega
          have hr0' : r ≠ 0 := by omega
          have HRD := Aside0.mk (Kd.R_reads' HS.out.va)
          have hvl : v.length = vs.length := HL.out.1.1
          have HSC : Aside0 (Kd.C (Kd.int .i64) wr (some ⟨gv, 0, none⟩) vs.length v ∧ vs.length ≤ cv) := ⟨by have h_ := HRD.out.2.2; rw [hvl] at h_; exact h_, HRD.out.2.1⟩
          have HVL := Aside0.mk hvl
          obtain ⟨Ac, cc, ec⟩ := Kd.R_slice HS.out.ce
          subst ec
          clear hs hK HD HRD hvl
          go_wp2_with (first
            | (go_at_call 56; (refine (calls_of_args (by rw [HVL.out]) (impl_isSorted.calls K (some ⟨gv, 0, none⟩) cv v true _ (by rw [HVL.out]; exact HSC.out.1) (by rw [HVL.out]; exact HSC.out.2) HK.out)).mono ?_); rintro e_ w8 ⟨rfl, hdr⟩; have HS8 := Aside0.mk (HS.out.below hdr.below); clear hdr HS; have q0 := (blk_cell HS8.out.box 0).trans rfl; have q1 := (blk_cell HS8.out.box 1).trans rfl; have q2 := (blk_cell HS8.out.box 2).trans rfl; have x0 := (blk_cell HS8.out.bz 0).trans rfl; have x1 := (blk_cell HS8.out.bz 1).trans rfl; have x2 := (blk_cell HS8.out.bz 2).trans rfl; have fx0 := blk_frozen HS8.out.bz 0; have fx1 := blk_frozen HS8.out.bz 1; have fx2 := blk_frozen HS8.out.bz 2)
            | fail)
          have hs0 := HS0.out
          subst hs0
          have R1 := Kd.R_set HS8.out.ce HS8.out.bz (by decide) 0 (.int .i64 r)
          have E1 := Kd.R_set HS8.out.en HS8.out.bz (by decide) 0 (.int .i64 r)
          have B1 := blk_set HS8.out.bz 0 (.int .i64 r)
          have R2 := Kd.R_set R1 B1 (by decide) 1 (.int .i64 (vs.length : Int))
          have E2 := Kd.R_set E1 B1 (by decide) 1 (.int .i64 (vs.length : Int))
          have B2 := blk_set B1 1 (.int .i64 (vs.length : Int))
          have R3 := Kd.R_set R2 B2 (by decide) 2 (.slice Ac cs.length cc)
          have E3 := Kd.R_set E2 B2 (by decide) 2 (.slice Ac cs.length cc)
          have B3 := blk_set B2 2 (.slice Ac cs.length cc)
          have hc0 := blk_cell B3 0
          have hc1 := blk_cell B3 1
          have hc2 := blk_cell B3 2
          exact bodyPost_ret (v := .tuple #[.agg #[.int .i64 r, .int .i64 (vs.length : Int), .slice Ac cs.length cc], .int .i64 (zerosL vs), .slice (some ⟨ge, 0, none⟩) vs.length c6]) (by simp [results, Try.results36, go_sem, hc0, hc1, hc2]) rfl ⟨_, _, rfl, R3, E3, below_set (below_set (below_set HS8.out.be (by omega)) (by omega)) (by omega)⟩
        · have hb : roundsL gk r v e cs = Q ∧ within gk r v = true := by
            rcases HD.out with h_ | h_
            · exact h_.2
            · have hs : ¬ srtL v = true := fun h2 => hx ⟨h_.1, h2⟩
              have h3 := h_.2.1
              rw [if_neg hs] at h3
              exact ⟨h3, h_.2.2.resolve_left hs⟩
          obtain ⟨d, rfl⟩ : ∃ d, gk = d + 1 := by
            cases gk with
            | zero => have := hb.2; simp [within] at this
            | succ d => exact ⟨d, rfl⟩
          obtain ⟨P, hP⟩ : ∃ P, P = passL vs.length (r % 2) v e (List.replicate vs.length ⟨0, 0⟩) := ⟨_, rfl⟩
          have hl := passL_len vs.length (r % 2) v e (List.replicate vs.length ⟨0, 0⟩)
          have hpv := passL_v vs.length (r % 2) v e (List.replicate vs.length ⟨0, 0⟩)
          rw [← hP] at hpv
          rw [← hP, HL.out.1.1, HL.out.1.2.1, List.length_replicate] at hl
          have HF2 : Aside0 ((if srtL P.1 = true then (r + 1, P.1, P.2.1, cs ++ P.2.2) else roundsL d (r + 1) P.1 P.2.1 (cs ++ P.2.2)) = Q) := ⟨by rw [← hb.1, roundsL, HL.out.1.1, hP]⟩
          have HW2 : Aside0 (srtL P.1 = true ∨ within d (r + 1) P.1 = true) := ⟨by have h_ := hb.2; rw [within, Bool.or_eq_true, HL.out.1.1, ← hpv] at h_; exact h_⟩
          have HBP : Aside0 (∀ y ∈ P.1, y = 0 ∨ y = 1) := ⟨by rw [hpv]; exact passV_bits _ _ _ HL.out.2⟩
          have HL2 : Aside0 (P.1.length = vs.length ∧ P.2.1.length = vs.length ∧ (cs ++ P.2.2).length ≤ 8 * (r + 1)) := ⟨⟨hl.1, hl.2.1, by rw [List.length_append]; have := HL.out.1.2.2; omega⟩⟩
          have HP := Aside0.mk hP
          have hcs8 : cs.length ≤ 100000 := by have := HL.out.1.2.2; omega
          have HVL := Aside0.mk HL.out.1.1
          have HEL := Aside0.mk HL.out.1.2.1
          have HBV := Aside0.mk HL.out.2
          clear hb hl hpv hP
          by_cases hr0 : r = 0
          · have hr0' : ((r : Int) == 0) = true := by simp [hr0]
            clear hx HD HL hr0
            go_wp2_with (first
              | ((with_reducible refine gate_dst (N := 49) rfl ?_); refine Kd.R_make k72 (w0 := w) w.heap.size 72 rfl (N := 49) rfl 37 _ _ rfl (vs.length : Int) rfl rfl Try.underlying37 (.agg #[.int .i64 0, .int .i64 0]) 16 info72 rfl (by decide) (by omega) z72 (ok := fun k => some k ≠ vc.ownBlock) (okp := fun _ => False) (k72_mkM _ _ _ _) (fun _ hk => hk.elim) ?hf (by omega) (by omega) HS.out.be HS.out.be.size ?_; (case hf => exact (fun e_ => by have := Kd.R_lt HS.out.ce _ e_.symm; omega)); intro v2 w2 hR hb hg _; rw [Int.toNat_natCast] at hR; obtain ⟨gr, cr, er, _, _, _⟩ := Kd.R_form hR (by simp; omega); replace er : v2 = .slice (some ⟨gr, 0, none⟩) vs.length cr := (by rw [er]; simp); subst er; have HR2 : Aside0 (SbRow w w2 g (w.heap.size + 1) (vs.length : Int) gr vs.length cr (.slice (some ⟨gv, 0, none⟩) vs.length cv) (.slice (some ⟨ge, 0, none⟩) vs.length c6) vc v e cs (r : Int) (List.replicate vs.length ⟨0, 0⟩)) := ⟨SbRow.new HS.out hR hg⟩; clear hR hb hg)
              | fail)
            clear HS
            have em : ((r : Int) % 2) = ((r % 2 : Nat) : Int) := by omega
            (try rw [em])
            have hm2 : r % 2 < 2 := Nat.mod_lt _ (by omega)
            clear em
            have HP0 : Aside0 (passL vs.length (r % 2) v e (List.replicate vs.length ⟨0, 0⟩) = P) := ⟨HP.out.symm⟩
            go_loopw [13] (fun v13 wr => ∃ (c d : Nat) (v e : List Int) (rs : List S72), v13 = .int .i64 c ∧ vs.length ≤ c + d ∧ c ≤ vs.length + 1 ∧ Aside0 (passL d c v e rs = P) ∧ Aside0 (v.length = vs.length) ∧ Aside0 (e.length = vs.length) ∧ Aside0 (∀ y ∈ v, y = 0 ∨ y = 1) ∧ Aside0 (SbRow w wr g (w.heap.size + 1) (vs.length : Int) gr vs.length cr (.slice (some ⟨gv, 0, none⟩) vs.length cv) (.slice (some ⟨ge, 0, none⟩) vs.length c6) vc v e cs (r : Int) rs)) (fun i _ => vs.length + 2 - (intOf i).toNat)
            case atStart => exact ⟨r % 2, vs.length, v, e, _, rfl, by omega, by omega, HP0, HVL, HEL, HBV, HR2⟩
            case round =>
              clear HP HP0 HVL HEL HBV HR2
              obtain ⟨c, d2, v, e, rs, rfl, hd, hc, HQ1, HV, HE, HBV, HS⟩ := hrel
              have hvl := HV.out
              have hel := HE.out
              by_cases hlt : c + 1 < vs.length
              · obtain ⟨d2, rfl⟩ : ∃ m, d2 = m + 1 := ⟨d2 - 1, by omega⟩
                have hq := HQ1.out
                rw [passL, if_pos (by omega)] at hq
                obtain ⟨a, ha⟩ : ∃ x, x = rd v (c : Int) := ⟨_, rfl⟩
                obtain ⟨b, hb⟩ : ∃ x, x = rd v ((c + 1 : Nat) : Int) := ⟨_, rfl⟩
                obtain ⟨ea, hea⟩ : ∃ x, x = rd e (c : Int) := ⟨_, rfl⟩
                obtain ⟨eb, heb⟩ : ∃ x, x = rd e ((c + 1 : Nat) : Int) := ⟨_, rfl⟩
                have hab0 := HBV.out a (by rw [ha]; exact rd_mem0 (by omega))
                have hbb0 := HBV.out b (by rw [hb]; exact rd_mem0 (by omega))
                rw [← ha, ← hb, ← hea, ← heb] at hq
                obtain ⟨y0, fv0⟩ := Kd.R_celln 0 HS.out.cb.va (c : Int) (by omega) (by omega)
                obtain ⟨y1, fv1⟩ := Kd.R_celln 0 HS.out.cb.va ((c + 1 : Nat) : Int) (by omega) (by omega)
                rw [Int.toNat_natCast] at y0 y1 fv0 fv1
                replace y0 : wr.cell? ⟨gv, c, none⟩ = some (.int .i64 a) := by rw [ha]; exact y0
                replace y1 : wr.cell? ⟨gv, c + 1, none⟩ = some (.int .i64 b) := by rw [hb]; exact y1
                have HEA := Aside0.mk hea
                have HEB := Aside0.mk heb
                have HQ2 := Aside0.mk hq
                have hcn : c < vs.length := by omega
                clear ha hb hea heb HQ1 hvl hel hq
                by_cases hab : b < a
                · obtain rfl : a = 1 := by omega
                  obtain rfl : b = 0 := by omega
                  have HQ3 := HQ2.out
                  rw [if_pos hab] at HQ3
                  replace HQ2 := Aside0.mk HQ3
                  clear HQ3 hab hab0 hbb0
                  obtain ⟨h1, h1z, h2, h3, h4⟩ := HS.out.ne
                  obtain ⟨_, ⟨x0, hx0⟩, ⟨x1, hx1⟩, fx0, fx1⟩ := cellPut HS.out.ro c (by omega) ⟨2, 0⟩
                  obtain ⟨_, ⟨x2, hx2⟩, ⟨x3, hx3⟩, fx2, fx3⟩ := cellPut HS.out.ro (c + 1) (by omega) ⟨1, 0⟩
                  have n1 : gr ≠ gv := fun e_ => h2 (by rw [e_]; rfl)
                  have m1 := n1.symm
                  clear h1 h1z h2 h3 h4
                  go_wp2
                  have HS2 : Aside0 (SbRow w ((((((wr.setCell ⟨gr, c * 2, none⟩ (.int .i64 2)).setCell ⟨gr, c * 2 + 1, none⟩ (.int .i64 0)).setCell ⟨gr, (c + 1) * 2, none⟩ (.int .i64 1)).setCell ⟨gr, (c + 1) * 2 + 1, none⟩ (.int .i64 0)).setCell ⟨gv, c, none⟩ (.int .i64 0)).setCell ⟨gv, c + 1, none⟩ (.int .i64 1)) g (w.heap.size + 1) (vs.length : Int) gr vs.length cr (.slice (some ⟨gv, 0, none⟩) vs.length cv) (.slice (some ⟨ge, 0, none⟩) vs.length c6) vc ((v.set c 0).set (c + 1) 1) e cs (r : Int) ((rs.set c ⟨2, 0⟩).set (c + 1) ⟨1, 0⟩)) := ⟨(((HS.out.put c (by omega) ⟨2, 0⟩).put (c + 1) (by omega) ⟨1, 0⟩).val c 0).val (c + 1) 1⟩
                  clear HS hx0 hx1 fx0 fx1 hx2 hx3 fx2 fx3 y0 fv0 y1 fv1
                  generalize ((((((wr.setCell ⟨gr, c * 2, none⟩ (.int .i64 2)).setCell ⟨gr, c * 2 + 1, none⟩ (.int .i64 0)).setCell ⟨gr, (c + 1) * 2, none⟩ (.int .i64 1)).setCell ⟨gr, (c + 1) * 2 + 1, none⟩ (.int .i64 0)).setCell ⟨gv, c, none⟩ (.int .i64 0)).setCell ⟨gv, c + 1, none⟩ (.int .i64 1)) = wq at HS2 ⊢
                  obtain ⟨ye0, fe0⟩ := Kd.R_celln 0 HS2.out.cb.en (c : Int) (by omega) (by omega)
                  obtain ⟨ye1, fe1⟩ := Kd.R_celln 0 HS2.out.cb.en ((c + 1 : Nat) : Int) (by omega) (by omega)
                  rw [Int.toNat_natCast] at ye0 fe0 ye1 fe1
                  replace ye0 : wq.cell? ⟨ge, c, none⟩ = some (.int .i64 ea) := by rw [HEA.out]; exact ye0
                  replace ye1 : wq.cell? ⟨ge, c + 1, none⟩ = some (.int .i64 eb) := by rw [HEB.out]; exact ye1
                  have e1 : IntKind.i64.wrap ((c : Int) + 1) = (c : Int) + 1 := IntWalk.i64_in _ (by omega)
                  have e2 : (0 : Int) ≤ (c : Int) + 1 := by omega
                  have e3 : ((c : Int) + 1).toNat = c + 1 := by omega
                  have e4 : (c : Int) + 1 < (vs.length : Int) := by omega
                  refine start_ (n := 18) (S := fun w' => w'.cell? ⟨ge, c, none⟩ = some (.int .i64 ea) ∧ w'.cell? ⟨ge, c + 1, none⟩ = some (.int .i64 eb)) (ds := [15, 17]) #[false, false, false, false, false, false, false, false, false, false, false, false, false, false, false, false, false, false] (by kernel_rfl) rfl rfl ⟨ye0, ye1⟩ (fun hHeld => ?_)
                  refine Own.anew_ (wN := wq) (by repeat (first | with_reducible exact Below.refl _ _ | with_reducible apply below_alloc | with_reducible apply pw_below_drewN | with_reducible apply below_drew1)) hHeld (fun wy hzb hHeld => ?_)
                  have fe0 := (Below.frozen (p := ⟨ge, c, none⟩) hzb (Kd.R_lt HS2.out.cb.en ge rfl)).trans fe0
                  have ye0 := (hzb.cell (World.block_lt_of_cell? wq _ ye0)).trans ye0
                  replace HS2 := Aside0.mk (HS2.out.below hzb)
                  clear hzb ye1 fe1
                  refine pure_ (i := 0) (N := some 88) (v := ?_) (a' := ?_) #[true, false, false, false, false, false, false, false, false, false, false, false, false, false, false, false, false, false] rfl rfl (by kernel_rfl) (fun _ _ _ h => h) (Or.inl ⟨by rfl, ?_⟩) ?_ ?_
                  rotate_left
                  · intro w'
                    go_simp
                    with_reducible rfl
                  rotate_left
                  · simp only [Act.put, List.setIfInBounds_toArray, List.set_cons_zero, List.set_cons_succ, i64_w, i32_w]
                    rfl
                  refine pure_ (i := 1) (N := some 89) (v := ?_) (a' := ?_) #[true, true, false, false, false, false, false, false, false, false, false, false, false, false, false, false, false, false] rfl rfl (by kernel_rfl) (fun _ _ _ h => h) (Or.inl ⟨by rfl, ?_⟩) ?_ ?_
                  rotate_left
                  · intro w'
                    go_simp
                    with_reducible rfl
                  rotate_left
                  · simp only [Act.put, List.setIfInBounds_toArray, List.set_cons_zero, List.set_cons_succ, i64_w, i32_w]
                    rfl
                  refine pure_ (i := 2) (N := some 90) (v := ?_) (a' := ?_) #[true, true, true, false, false, false, false, false, false, false, false, false, false, false, false, false, false, false] rfl rfl (by kernel_rfl) (fun _ _ _ h => h) (Or.inl ⟨by rfl, ?_⟩) ?_ ?_
                  rotate_left
                  · intro w'
                    go_simp
                    with_reducible rfl
                  rotate_left
                  · simp only [Act.put, List.setIfInBounds_toArray, List.set_cons_zero, List.set_cons_succ, i64_w, i32_w]
                    rfl
                  refine pure_ (i := 3) (N := some 91) (v := ?_) (a' := ?_) #[true, true, true, true, false, false, false, false, false, false, false, false, false, false, false, false, false, false] rfl rfl (by kernel_rfl) (fun _ _ _ h => h) (Or.inl ⟨by rfl, ?_⟩) ?_ ?_
                  rotate_left
                  · intro w'
                    go_simp
                    with_reducible rfl
                  rotate_left
                  · simp only [Act.put, List.setIfInBounds_toArray, List.set_cons_zero, List.set_cons_succ, i64_w, i32_w]
                    rfl
                  refine pure_ (i := 4) (N := some 92) (v := ?_) (a' := ?_) #[true, true, true, true, true, false, false, false, false, false, false, false, false, false, false, false, false, false] rfl rfl (by kernel_rfl) (fun _ _ _ h => h) (Or.inl ⟨by rfl, ?_⟩) ?_ ?_
                  rotate_left
                  · intro w'
                    go_simp
                    with_reducible rfl
                  rotate_left
                  · simp only [Act.put, List.setIfInBounds_toArray, List.set_cons_zero, List.set_cons_succ, i64_w, i32_w]
                    rfl
                  refine pure_ (i := 5) (N := some 93) (v := ?_) (a' := ?_) #[true, true, true, true, true, true, false, false, false, false, false, false, false, false, false, false, false, false] rfl rfl (by kernel_rfl) (fun _ _ _ h => h) (Or.inl ⟨by rfl, ?_⟩) ?_ ?_
                  rotate_left
                  · intro w'
                    go_simp
                    with_reducible rfl
                  rotate_left
                  · simp only [Act.put, List.setIfInBounds_toArray, List.set_cons_zero, List.set_cons_succ, i64_w, i32_w]
                    rfl
                  refine pure_ (i := 6) (N := some 94) (v := ?_) (a' := ?_) #[true, true, true, true, true, true, true, false, false, false, false, false, false, false, false, false, false, false] rfl rfl (by kernel_rfl) (fun _ _ _ h => h) (Or.inl ⟨by rfl, ?_⟩) ?_ ?_
                  rotate_left
                  · intro w'
                    go_simp
                    with_reducible rfl
                  rotate_left
                  · simp only [Act.put, List.setIfInBounds_toArray, List.set_cons_zero, List.set_cons_succ, i64_w, i32_w]
                    rfl
                  refine pure_ (i := 7) (N := some 95) (v := ?_) (a' := ?_) #[true, true, true, true, true, true, true, true, false, false, false, false, false, false, false, false, false, false] rfl rfl (by kernel_rfl) (fun _ _ _ h => h) (Or.inl ⟨by rfl, ?_⟩) ?_ ?_
                  rotate_left
                  · intro w'
                    go_simp
                    with_reducible rfl
                  rotate_left
                  · simp only [Act.put, List.setIfInBounds_toArray, List.set_cons_zero, List.set_cons_succ, i64_w, i32_w]
                    rfl
                  refine pure_ (i := 8) (N := some 96) (v := ?_) (a' := ?_) #[true, true, true, true, true, true, true, true, true, false, false, false, false, false, false, false, false, false] rfl rfl (by kernel_rfl) (fun _ _ _ h => h) (Or.inl ⟨by rfl, ?_⟩) ?_ ?_
                  rotate_left
                  · intro w'
                    go_simp
                    with_reducible rfl
                  rotate_left
                  · simp only [Act.put, List.setIfInBounds_toArray, List.set_cons_zero, List.set_cons_succ, i64_w, i32_w]
                    rfl
                  refine pure_ (i := 10) (N := some 98) (v := ?_) (a' := ?_) #[true, true, true, true, true, true, true, true, true, false, true, false, false, false, false, false, false, false] rfl rfl (by kernel_rfl) (fun _ _ _ h => h) (Or.inl ⟨by rfl, ?_⟩) ?_ ?_
                  rotate_left
                  · intro w'
                    go_simp
                    with_reducible rfl
                  rotate_left
                  · simp only [Act.put, List.setIfInBounds_toArray, List.set_cons_zero, List.set_cons_succ, i64_w, i32_w]
                    rfl
                  refine pure_ (i := 11) (N := some 99) (v := ?_) (a' := ?_) #[true, true, true, true, true, true, true, true, true, false, true, true, false, false, false, false, false, false] rfl rfl (by kernel_rfl) (fun _ _ _ h => h) (Or.inl ⟨by rfl, ?_⟩) ?_ ?_
                  rotate_left
                  · intro w'
                    go_simp
                    with_reducible rfl
                  rotate_left
                  · simp only [Act.put, List.setIfInBounds_toArray, List.set_cons_zero, List.set_cons_succ, i64_w, i32_w]
                    rfl
                  refine pure_ (i := 12) (N := some 100) (v := ?_) (a' := ?_) #[true, true, true, true, true, true, true, true, true, false, true, true, true, false, false, false, false, false] rfl rfl (by kernel_rfl) (fun _ _ _ h => h) (Or.inl ⟨by rfl, ?_⟩) ?_ ?_
                  rotate_left
                  · intro w'
                    go_simp
                    with_reducible rfl
                  rotate_left
                  · simp only [Act.put, List.setIfInBounds_toArray, List.set_cons_zero, List.set_cons_succ, i64_w, i32_w]
                    rfl
                  refine take_ (i := 9) (N := some 97) (v := ?_) (a' := ?_) #[true, true, true, true, true, true, true, true, true, true, true, true, true, false, false, false, false, false] rfl rfl (by kernel_rfl) (fun _ _ _ h => h) (Or.inl ⟨by rfl, ?_⟩) hHeld ?_ ?_
                  rotate_left
                  · rintro w' ⟨s0, s1⟩
                    go_simp
                    with_reducible rfl
                  rotate_left
                  · simp only [Act.put, List.setIfInBounds_toArray, List.set_cons_zero, List.set_cons_succ, i64_w, i32_w]
                    rfl
                  refine take_ (i := 13) (N := some 101) (v := ?_) (a' := ?_) #[true, true, true, true, true, true, true, true, true, true, true, true, true, true, false, false, false, false] rfl rfl (by kernel_rfl) (fun _ _ _ h => h) (Or.inl ⟨by rfl, ?_⟩) hHeld ?_ ?_
                  rotate_left
                  · rintro w' ⟨s0, s1⟩
                    go_simp
                    with_reducible rfl
                  rotate_left
                  · simp only [Act.put, List.setIfInBounds_toArray, List.set_cons_zero, List.set_cons_succ, i64_w, i32_w]
                    rfl
                  refine pure_ (i := 14) (N := some 102) (v := ?_) (a' := ?_) #[true, true, true, true, true, true, true, true, true, true, true, true, true, true, true, false, false, false] rfl rfl (by kernel_rfl) (fun _ _ _ h => h) (Or.inl ⟨by rfl, ?_⟩) ?_ ?_
                  rotate_left
                  · intro w'
                    go_simp
                    with_reducible rfl
                  rotate_left
                  · simp only [Act.put, List.setIfInBounds_toArray, List.set_cons_zero, List.set_cons_succ, i64_w, i32_w]
                    rfl
                  refine last_ (i := 15) (N := none) #[true, true, true, true, true, true, true, true, true, true, true, true, true, true, true, true, false, false] rfl rfl (by kernel_rfl) (by decide) (fun K hK => ?_)
                  refine skip_ (w1 := wy.setCell ⟨ge, c, none⟩ (.int .i64 eb)) (by rfl) rfl ?_ ?_
                  · first | (go_simp; done) | (go_simp; rfl)
                  refine hK.out _ _ ?_
                  clear hK K
                  have HS3 := Aside0.mk (HS2.out.ent c eb)
                  clear HS2 ye0 fe0 hHeld
                  generalize wy.setCell ⟨ge, c, none⟩ (.int .i64 eb) = wx at HS3 ⊢
                  obtain ⟨ye1, fe1⟩ := Kd.R_celln 0 HS3.out.cb.en ((c + 1 : Nat) : Int) (by omega) (by omega)
                  rw [Int.toNat_natCast] at ye1 fe1
                  refine pure_ (i := 16) (N := some 103) (v := ?_) (a' := ?_) #[true, true, true, true, true, true, true, true, true, true, true, true, true, true, true, true, true, false] rfl rfl (by kernel_rfl) (fun _ _ _ h => h) (Or.inl ⟨by rfl, ?_⟩) ?_ ?_
                  rotate_left
                  · intro w'
                    go_simp
                    with_reducible rfl
                  rotate_left
                  · simp only [Act.put, List.setIfInBounds_toArray, List.set_cons_zero, List.set_cons_succ, i64_w, i32_w]
                    rfl
                  refine last_ (i := 17) (N := none) #[true, true, true, true, true, true, true, true, true, true, true, true, true, true, true, true, true, true] rfl rfl (by kernel_rfl) (by decide) (fun K hK => ?_)
                  refine skip_ (w1 := wx.setCell ⟨ge, c + 1, none⟩ (.int .i64 ea)) (by rfl) rfl ?_ ?_
                  · first | (go_simp; done) | (go_simp; rfl)
                  refine hK.out _ _ ?_
                  clear hK K
                  refine done_ (by kernel_rfl) ?_
                  clear ye1 fe1 e1 e2 e3 e4
                  go_wp2
                  go_roundw
                  case rel => first | exact ⟨c + 2, d2, _, _, _, by go_num, by omega, by omega, HQ2, ⟨by rw [List.length_set, List.length_set]; exact HV.out⟩, ⟨by rw [List.length_set, List.length_set]; exact HE.out⟩, ⟨set_bits _ _ _ (Or.inr rfl) (set_bits _ _ _ (Or.inl rfl) HBV.out)⟩, ⟨HS3.out.ent (c + 1) ea⟩⟩ | ((repeat apply Exists.intro); exact ⟨⟨c + 2, d2, _, _, _, by go_num, by omega, by omega, HQ2, ⟨by rw [List.length_set, List.length_set]; exact HV.out⟩, ⟨by rw [List.length_set, List.length_set]; exact HE.out⟩, ⟨set_bits _ _ _ (Or.inr rfl) (set_bits _ _ _ (Or.inl rfl) HBV.out)⟩, ⟨HS3.out.ent (c + 1) ea⟩⟩, rfl⟩)
                  case measure => simp [intOf]; omega
                · have HQ3 := HQ2.out
                  rw [if_neg hab] at HQ3
                  replace HQ2 := Aside0.mk HQ3
                  clear HQ3
                  by_cases ha1 : a = 1
                  · obtain rfl : b = 1 := by omega
                    subst ha1
                    clear hab hab0 hbb0
                    go_wp2
                    go_roundw
                    case rel => first | exact ⟨c + 2, d2, v, e, rs, by go_num, by omega, by omega, HQ2, HV, HE, HBV, HS⟩ | ((repeat apply Exists.intro); exact ⟨⟨c + 2, d2, v, e, rs, by go_num, by omega, by omega, HQ2, HV, HE, HBV, HS⟩, rfl⟩)
                    case measure => simp [intOf]; omega
                  · obtain rfl : a = 0 := by omega
                    clear hab hab0 hbb0 ha1
                    go_wp2
                    go_roundw
                    case rel => first | exact ⟨c + 2, d2, v, e, rs, by go_num, by omega, by omega, HQ2, HV, HE, HBV, HS⟩ | ((repeat apply Exists.intro); exact ⟨⟨c + 2, d2, v, e, rs, by go_num, by omega, by omega, HQ2, HV, HE, HBV, HS⟩, rfl⟩)
                    case measure => simp [intOf]; omega
              · have hq := HQ1.out
                rw [passL_end _ _ _ _ _ (by omega)] at hq
                obtain ⟨Ac, cc, ec⟩ := Kd.R_slice HS.out.cb.ce
                subst ec
                have hro := (Kd.R_reads' (HS.out.rows ((r : Int) + 1)).ro).2.2
                have hrl : rs.length = vs.length := (Kd.R_reads' HS.out.ro).1.symm
                rw [hrl] at hro
                have HRL := Aside0.mk hrl
                have HRO := Aside0.mk hro
                have HQE := Aside0.mk hq
                have z0 : wr.cell? ⟨g, 0, none⟩ = some (.int .i64 r) := (blk_cell HS.out.cb.box 0).trans rfl
                have z2 : wr.cell? ⟨g, 2, none⟩ = some (.slice Ac cs.length cc) := (blk_cell HS.out.cb.box 2).trans rfl
                have fz0 := blk_frozen HS.out.cb.box 0
                clear hro hrl hq HQ1 hvl hel
                go_wp2_with (first
                  | ((with_reducible refine gate_builtin (b := .append) (xs := #[.tmp 109, .tmp 110]) rfl ?_); at_builtin; refine Kd.R_append_rows k72 (w0 := w) w.heap.size rfl (.tmp 109) (.tmp 110) 37 72 (.agg #[.int .i64 0, .int .i64 0]) 16 rfl Try.underlying37 info72 rfl (by decide) (by omega) (.slice Ac cs.length cc) cs rs (some ⟨gr, 0, none⟩) vs.length cr (fun _ => True) (fun _ => False) rfl rfl ?aO ?aR (fun _ _ h => h) (fun _ h => h.elim) (fun _ _ => trivial) ?aB ?aS ?aL ?_; (case aO => exact (HS.out.rows ((r : Int) + 1)).cb.ce); (case aR => exact HRO.out); (case aB => exact (HS.out.rows ((r : Int) + 1)).cb.be); (case aS => exact (HS.out.rows ((r : Int) + 1)).cb.be.size); (case aL => omega); intro v99 w9 ho hb hg hat; obtain ⟨A9, c9, e9⟩ := Kd.R_slice ho; subst e9; obtain ⟨hx9, hc9⟩ := (HS.out.rows ((r : Int) + 1)).cb.app ho hb hg; have HC9 := Aside0.mk hc9; have y2 := (blk_cell hx9 2).trans rfl; have fy2 := blk_frozen hx9 2; clear ho hb hg hat HS HRO hx9 hc9 z0 z2 fz0)
                  | fail)
                have h_ := HC9.out
                rw [List.length_append] at h_
                have hq := HQE.out
                subst hq
                have HC10 := Aside0.mk h_
                clear h_ HC9 HQE
                go_roundg d
                case measure => omega
                case rel => exact ⟨r + 1, v, e, cs ++ rs, _, by go_num, by omega, by omega, ⟨⟨HL2.out.1, HL2.out.2.1, HL2.out.2.2⟩, HBP.out⟩, ⟨.inr ⟨by omega, HF2.out, HW2.out⟩⟩, HC10⟩
          · have hs : srtL v = false := by
              by_cases h_ : srtL v = true
              · exact absurd ⟨by omega, h_⟩ hx
              · simpa using h_
            obtain ⟨K, hK⟩ := isSortedE v (by rw [HL.out.1.1]; omega)
            have HK : Aside0 (impl_isSorted.f K v = some false) := ⟨by rw [← hs]; exact hK K (Nat.le_refl _)⟩
            have hr0' : ((r : Int) == 0) = false := by simp; omega
            have HRD := Aside0.mk (Kd.R_reads' HS.out.va)
            have HSC : Aside0 (Kd.C (Kd.int .i64) wr (some ⟨gv, 0, none⟩) vs.length v ∧ vs.length ≤ cv) := ⟨by have h_ := HRD.out.2.2; rw [HVL.out] at h_; exact h_, HRD.out.2.1⟩
            clear hs hK hx HD HL HRD
            go_wp2_with (first
              | (go_at_call 56; (refine (calls_of_args (by rw [HVL.out]) (impl_isSorted.calls K (some ⟨gv, 0, none⟩) cv v false _ (by rw [HVL.out]; exact HSC.out.1) (by rw [HVL.out]; exact HSC.out.2) HK.out)).mono ?_); rintro e_ w8 ⟨rfl, hdr⟩; have HS8 := Aside0.mk (HS.out.below hdr.below); clear hdr HS HSC)
              | ((with_reducible refine gate_dst (N := 49) rfl ?_); refine Kd.R_make k72 (w0 := w) w.heap.size 72 rfl (N := 49) rfl 37 _ _ rfl (vs.length : Int) rfl rfl Try.underlying37 (.agg #[.int .i64 0, .int .i64 0]) 16 info72 rfl (by decide) (by omega) z72 (ok := fun k => some k ≠ vc.ownBlock) (okp := fun _ => False) (k72_mkM _ _ _ _) (fun _ hk => hk.elim) ?hf (by omega) (by omega) HS8.out.be HS8.out.be.size ?_; (case hf => exact (fun e_ => by have := Kd.R_lt HS8.out.ce _ e_.symm; omega)); intro v2 w2 hR hb hg _; rw [Int.toNat_natCast] at hR; obtain ⟨gr, cr, er, _, _, _⟩ := Kd.R_form hR (by simp; omega); replace er : v2 = .slice (some ⟨gr, 0, none⟩) vs.length cr := (by rw [er]; simp); subst er; have HR2 : Aside0 (SbRow w w2 g (w.heap.size + 1) (vs.length : Int) gr vs.length cr (.slice (some ⟨gv, 0, none⟩) vs.length cv) (.slice (some ⟨ge, 0, none⟩) vs.length c6) vc v e cs (r : Int) (List.replicate vs.length ⟨0, 0⟩)) := ⟨SbRow.new HS8.out hR hg⟩; clear hR hb hg)
              | fail)
            clear HS8
            have em : ((r : Int) % 2) = ((r % 2 : Nat) : Int) := by omega
            (try rw [em])
            have hm2 : r % 2 < 2 := Nat.mod_lt _ (by omega)
            clear em
            have HP0 : Aside0 (passL vs.length (r % 2) v e (List.replicate vs.length ⟨0, 0⟩) = P) := ⟨HP.out.symm⟩
            go_loopw [13] (fun v13 wr => ∃ (c d : Nat) (v e : List Int) (rs : List S72), v13 = .int .i64 c ∧ vs.length ≤ c + d ∧ c ≤ vs.length + 1 ∧ Aside0 (passL d c v e rs = P) ∧ Aside0 (v.length = vs.length) ∧ Aside0 (e.length = vs.length) ∧ Aside0 (∀ y ∈ v, y = 0 ∨ y = 1) ∧ Aside0 (SbRow w wr g (w.heap.size + 1) (vs.length : Int) gr vs.length cr (.slice (some ⟨gv, 0, none⟩) vs.length cv) (.slice (some ⟨ge, 0, none⟩) vs.length c6) vc v e cs (r : Int) rs)) (fun i _ => vs.length + 2 - (intOf i).toNat)
            case atStart => exact ⟨r % 2, vs.length, v, e, _, rfl, by omega, by omega, HP0, HVL, HEL, HBV, HR2⟩
            case round =>
              clear HP HP0 HVL HEL HBV HR2
              obtain ⟨c, d2, v, e, rs, rfl, hd, hc, HQ1, HV, HE, HBV, HS⟩ := hrel
              have hvl := HV.out
              have hel := HE.out
              by_cases hlt : c + 1 < vs.length
              · obtain ⟨d2, rfl⟩ : ∃ m, d2 = m + 1 := ⟨d2 - 1, by omega⟩
                have hq := HQ1.out
                rw [passL, if_pos (by omega)] at hq
                obtain ⟨a, ha⟩ : ∃ x, x = rd v (c : Int) := ⟨_, rfl⟩
                obtain ⟨b, hb⟩ : ∃ x, x = rd v ((c + 1 : Nat) : Int) := ⟨_, rfl⟩
                obtain ⟨ea, hea⟩ : ∃ x, x = rd e (c : Int) := ⟨_, rfl⟩
                obtain ⟨eb, heb⟩ : ∃ x, x = rd e ((c + 1 : Nat) : Int) := ⟨_, rfl⟩
                have hab0 := HBV.out a (by rw [ha]; exact rd_mem0 (by omega))
                have hbb0 := HBV.out b (by rw [hb]; exact rd_mem0 (by omega))
                rw [← ha, ← hb, ← hea, ← heb] at hq
                obtain ⟨y0, fv0⟩ := Kd.R_celln 0 HS.out.cb.va (c : Int) (by omega) (by omega)
                obtain ⟨y1, fv1⟩ := Kd.R_celln 0 HS.out.cb.va ((c + 1 : Nat) : Int) (by omega) (by omega)
                rw [Int.toNat_natCast] at y0 y1 fv0 fv1
                replace y0 : wr.cell? ⟨gv, c, none⟩ = some (.int .i64 a) := by rw [ha]; exact y0
                replace y1 : wr.cell? ⟨gv, c + 1, none⟩ = some (.int .i64 b) := by rw [hb]; exact y1
                have HEA := Aside0.mk hea
                have HEB := Aside0.mk heb
                have HQ2 := Aside0.mk hq
                have hcn : c < vs.length := by omega
                clear ha hb hea heb HQ1 hvl hel hq
                by_cases hab : b < a
                · obtain rfl : a = 1 := by omega
                  obtain rfl : b = 0 := by omega
                  have HQ3 := HQ2.out
                  rw [if_pos hab] at HQ3
                  replace HQ2 := Aside0.mk HQ3
                  clear HQ3 hab hab0 hbb0
                  obtain ⟨h1, h1z, h2, h3, h4⟩ := HS.out.ne
                  obtain ⟨_, ⟨x0, hx0⟩, ⟨x1, hx1⟩, fx0, fx1⟩ := cellPut HS.out.ro c (by omega) ⟨2, 0⟩
                  obtain ⟨_, ⟨x2, hx2⟩, ⟨x3, hx3⟩, fx2, fx3⟩ := cellPut HS.out.ro (c + 1) (by omega) ⟨1, 0⟩
                  have n1 : gr ≠ gv := fun e_ => h2 (by rw [e_]; rfl)
                  have m1 := n1.symm
                  clear h1 h1z h2 h3 h4
                  go_wp2
                  have HS2 : Aside0 (SbRow w ((((((wr.setCell ⟨gr, c * 2, none⟩ (.int .i64 2)).setCell ⟨gr, c * 2 + 1, none⟩ (.int .i64 0)).setCell ⟨gr, (c + 1) * 2, none⟩ (.int .i64 1)).setCell ⟨gr, (c + 1) * 2 + 1, none⟩ (.int .i64 0)).setCell ⟨gv, c, none⟩ (.int .i64 0)).setCell ⟨gv, c + 1, none⟩ (.int .i64 1)) g (w.heap.size + 1) (vs.length : Int) gr vs.length cr (.slice (some ⟨gv, 0, none⟩) vs.length cv) (.slice (some ⟨ge, 0, none⟩) vs.length c6) vc ((v.set c 0).set (c + 1) 1) e cs (r : Int) ((rs.set c ⟨2, 0⟩).set (c + 1) ⟨1, 0⟩)) := ⟨(((HS.out.put c (by omega) ⟨2, 0⟩).put (c + 1) (by omega) ⟨1, 0⟩).val c 0).val (c + 1) 1⟩
                  clear HS hx0 hx1 fx0 fx1 hx2 hx3 fx2 fx3 y0 fv0 y1 fv1
                  generalize ((((((wr.setCell ⟨gr, c * 2, none⟩ (.int .i64 2)).setCell ⟨gr, c * 2 + 1, none⟩ (.int .i64 0)).setCell ⟨gr, (c + 1) * 2, none⟩ (.int .i64 1)).setCell ⟨gr, (c + 1) * 2 + 1, none⟩ (.int .i64 0)).setCell ⟨gv, c, none⟩ (.int .i64 0)).setCell ⟨gv, c + 1, none⟩ (.int .i64 1)) = wq at HS2 ⊢
                  obtain ⟨ye0, fe0⟩ := Kd.R_celln 0 HS2.out.cb.en (c : Int) (by omega) (by omega)
                  obtain ⟨ye1, fe1⟩ := Kd.R_celln 0 HS2.out.cb.en ((c + 1 : Nat) : Int) (by omega) (by omega)
                  rw [Int.toNat_natCast] at ye0 fe0 ye1 fe1
                  replace ye0 : wq.cell? ⟨ge, c, none⟩ = some (.int .i64 ea) := by rw [HEA.out]; exact ye0
                  replace ye1 : wq.cell? ⟨ge, c + 1, none⟩ = some (.int .i64 eb) := by rw [HEB.out]; exact ye1
                  have e1 : IntKind.i64.wrap ((c : Int) + 1) = (c : Int) + 1 := IntWalk.i64_in _ (by omega)
                  have e2 : (0 : Int) ≤ (c : Int) + 1 := by omega
                  have e3 : ((c : Int) + 1).toNat = c + 1 := by omega
                  have e4 : (c : Int) + 1 < (vs.length : Int) := by omega
                  refine start_ (n := 18) (S := fun w' => w'.cell? ⟨ge, c, none⟩ = some (.int .i64 ea) ∧ w'.cell? ⟨ge, c + 1, none⟩ = some (.int .i64 eb)) (ds := [15, 17]) #[false, false, false, false, false, false, false, false, false, false, false, false, false, false, false, false, false, false] (by kernel_rfl) rfl rfl ⟨ye0, ye1⟩ (fun hHeld => ?_)
                  refine Own.anew_ (wN := wq) (by repeat (first | with_reducible exact Below.refl _ _ | with_reducible apply below_alloc | with_reducible apply pw_below_drewN | with_reducible apply below_drew1)) hHeld (fun wy hzb hHeld => ?_)
                  have fe0 := (Below.frozen (p := ⟨ge, c, none⟩) hzb (Kd.R_lt HS2.out.cb.en ge rfl)).trans fe0
                  have ye0 := (hzb.cell (World.block_lt_of_cell? wq _ ye0)).trans ye0
                  replace HS2 := Aside0.mk (HS2.out.below hzb)
                  clear hzb ye1 fe1
                  refine pure_ (i := 0) (N := some 88) (v := ?_) (a' := ?_) #[true, false, false, false, false, false, false, false, false, false, false, false, false, false, false, false, false, false] rfl rfl (by kernel_rfl) (fun _ _ _ h => h) (Or.inl ⟨by rfl, ?_⟩) ?_ ?_
                  rotate_left
                  · intro w'
                    go_simp
                    with_reducible rfl
                  rotate_left
                  · simp only [Act.put, List.setIfInBounds_toArray, List.set_cons_zero, List.set_cons_succ, i64_w, i32_w]
                    rfl
                  refine pure_ (i := 1) (N := some 89) (v := ?_) (a' := ?_) #[true, true, false, false, false, false, false, false, false, false, false, false, false, false, false, false, false, false] rfl rfl (by kernel_rfl) (fun _ _ _ h => h) (Or.inl ⟨by rfl, ?_⟩) ?_ ?_
                  rotate_left
                  · intro w'
                    go_simp
                    with_reducible rfl
                  rotate_left
                  · simp only [Act.put, List.setIfInBounds_toArray, List.set_cons_zero, List.set_cons_succ, i64_w, i32_w]
                    rfl
                  refine pure_ (i := 2) (N := some 90) (v := ?_) (a' := ?_) #[true, true, true, false, false, false, false, false, false, false, false, false, false, false, false, false, false, false] rfl rfl (by kernel_rfl) (fun _ _ _ h => h) (Or.inl ⟨by rfl, ?_⟩) ?_ ?_
                  rotate_left
                  · intro w'
                    go_simp
                    with_reducible rfl
                  rotate_left
                  · simp only [Act.put, List.setIfInBounds_toArray, List.set_cons_zero, List.set_cons_succ, i64_w, i32_w]
                    rfl
                  refine pure_ (i := 3) (N := some 91) (v := ?_) (a' := ?_) #[true, true, true, true, false, false, false, false, false, false, false, false, false, false, false, false, false, false] rfl rfl (by kernel_rfl) (fun _ _ _ h => h) (Or.inl ⟨by rfl, ?_⟩) ?_ ?_
                  rotate_left
                  · intro w'
                    go_simp
                    with_reducible rfl
                  rotate_left
                  · simp only [Act.put, List.setIfInBounds_toArray, List.set_cons_zero, List.set_cons_succ, i64_w, i32_w]
                    rfl
                  refine pure_ (i := 4) (N := some 92) (v := ?_) (a' := ?_) #[true, true, true, true, true, false, false, false, false, false, false, false, false, false, false, false, false, false] rfl rfl (by kernel_rfl) (fun _ _ _ h => h) (Or.inl ⟨by rfl, ?_⟩) ?_ ?_
                  rotate_left
                  · intro w'
                    go_simp
                    with_reducible rfl
                  rotate_left
                  · simp only [Act.put, List.setIfInBounds_toArray, List.set_cons_zero, List.set_cons_succ, i64_w, i32_w]
                    rfl
                  refine pure_ (i := 5) (N := some 93) (v := ?_) (a' := ?_) #[true, true, true, true, true, true, false, false, false, false, false, false, false, false, false, false, false, false] rfl rfl (by kernel_rfl) (fun _ _ _ h => h) (Or.inl ⟨by rfl, ?_⟩) ?_ ?_
                  rotate_left
                  · intro w'
                    go_simp
                    with_reducible rfl
                  rotate_left
                  · simp only [Act.put, List.setIfInBounds_toArray, List.set_cons_zero, List.set_cons_succ, i64_w, i32_w]
                    rfl
                  refine pure_ (i := 6) (N := some 94) (v := ?_) (a' := ?_) #[true, true, true, true, true, true, true, false, false, false, false, false, false, false, false, false, false, false] rfl rfl (by kernel_rfl) (fun _ _ _ h => h) (Or.inl ⟨by rfl, ?_⟩) ?_ ?_
                  rotate_left
                  · intro w'
                    go_simp
                    with_reducible rfl
                  rotate_left
                  · simp only [Act.put, List.setIfInBounds_toArray, List.set_cons_zero, List.set_cons_succ, i64_w, i32_w]
                    rfl
                  refine pure_ (i := 7) (N := some 95) (v := ?_) (a' := ?_) #[true, true, true, true, true, true, true, true, false, false, false, false, false, false, false, false, false, false] rfl rfl (by kernel_rfl) (fun _ _ _ h => h) (Or.inl ⟨by rfl, ?_⟩) ?_ ?_
                  rotate_left
                  · intro w'
                    go_simp
                    with_reducible rfl
                  rotate_left
                  · simp only [Act.put, List.setIfInBounds_toArray, List.set_cons_zero, List.set_cons_succ, i64_w, i32_w]
                    rfl
                  refine pure_ (i := 8) (N := some 96) (v := ?_) (a' := ?_) #[true, true, true, true, true, true, true, true, true, false, false, false, false, false, false, false, false, false] rfl rfl (by kernel_rfl) (fun _ _ _ h => h) (Or.inl ⟨by rfl, ?_⟩) ?_ ?_
                  rotate_left
                  · intro w'
                    go_simp
                    with_reducible rfl
                  rotate_left
                  · simp only [Act.put, List.setIfInBounds_toArray, List.set_cons_zero, List.set_cons_succ, i64_w, i32_w]
                    rfl
                  refine pure_ (i := 10) (N := some 98) (v := ?_) (a' := ?_) #[true, true, true, true, true, true, true, true, true, false, true, false, false, false, false, false, false, false] rfl rfl (by kernel_rfl) (fun _ _ _ h => h) (Or.inl ⟨by rfl, ?_⟩) ?_ ?_
                  rotate_left
                  · intro w'
                    go_simp
                    with_reducible rfl
                  rotate_left
                  · simp only [Act.put, List.setIfInBounds_toArray, List.set_cons_zero, List.set_cons_succ, i64_w, i32_w]
                    rfl
                  refine pure_ (i := 11) (N := some 99) (v := ?_) (a' := ?_) #[true, true, true, true, true, true, true, true, true, false, true, true, false, false, false, false, false, false] rfl rfl (by kernel_rfl) (fun _ _ _ h => h) (Or.inl ⟨by rfl, ?_⟩) ?_ ?_
                  rotate_left
                  · intro w'
                    go_simp
                    with_reducible rfl
                  rotate_left
                  · simp only [Act.put, List.setIfInBounds_toArray, List.set_cons_zero, List.set_cons_succ, i64_w, i32_w]
                    rfl
                  refine pure_ (i := 12) (N := some 100) (v := ?_) (a' := ?_) #[true, true, true, true, true, true, true, true, true, false, true, true, true, false, false, false, false, false] rfl rfl (by kernel_rfl) (fun _ _ _ h => h) (Or.inl ⟨by rfl, ?_⟩) ?_ ?_
                  rotate_left
                  · intro w'
                    go_simp
                    with_reducible rfl
                  rotate_left
                  · simp only [Act.put, List.setIfInBounds_toArray, List.set_cons_zero, List.set_cons_succ, i64_w, i32_w]
                    rfl
                  refine take_ (i := 9) (N := some 97) (v := ?_) (a' := ?_) #[true, true, true, true, true, true, true, true, true, true, true, true, true, false, false, false, false, false] rfl rfl (by kernel_rfl) (fun _ _ _ h => h) (Or.inl ⟨by rfl, ?_⟩) hHeld ?_ ?_
                  rotate_left
                  · rintro w' ⟨s0, s1⟩
                    go_simp
                    with_reducible rfl
                  rotate_left
                  · simp only [Act.put, List.setIfInBounds_toArray, List.set_cons_zero, List.set_cons_succ, i64_w, i32_w]
                    rfl
                  refine take_ (i := 13) (N := some 101) (v := ?_) (a' := ?_) #[true, true, true, true, true, true, true, true, true, true, true, true, true, true, false, false, false, false] rfl rfl (by kernel_rfl) (fun _ _ _ h => h) (Or.inl ⟨by rfl, ?_⟩) hHeld ?_ ?_
                  rotate_left
                  · rintro w' ⟨s0, s1⟩
                    go_simp
                    with_reducible rfl
                  rotate_left
                  · simp only [Act.put, List.setIfInBounds_toArray, List.set_cons_zero, List.set_cons_succ, i64_w, i32_w]
                    rfl
                  refine pure_ (i := 14) (N := some 102) (v := ?_) (a' := ?_) #[true, true, true, true, true, true, true, true, true, true, true, true, true, true, true, false, false, false] rfl rfl (by kernel_rfl) (fun _ _ _ h => h) (Or.inl ⟨by rfl, ?_⟩) ?_ ?_
                  rotate_left
                  · intro w'
                    go_simp
                    with_reducible rfl
                  rotate_left
                  · simp only [Act.put, List.setIfInBounds_toArray, List.set_cons_zero, List.set_cons_succ, i64_w, i32_w]
                    rfl
                  refine last_ (i := 15) (N := none) #[true, true, true, true, true, true, true, true, true, true, true, true, true, true, true, true, false, false] rfl rfl (by kernel_rfl) (by decide) (fun K hK => ?_)
                  refine skip_ (w1 := wy.setCell ⟨ge, c, none⟩ (.int .i64 eb)) (by rfl) rfl ?_ ?_
                  · first | (go_simp; done) | (go_simp; rfl)
                  refine hK.out _ _ ?_
                  clear hK K
                  have HS3 := Aside0.mk (HS2.out.ent c eb)
                  clear HS2 ye0 fe0 hHeld
                  generalize wy.setCell ⟨ge, c, none⟩ (.int .i64 eb) = wx at HS3 ⊢
                  obtain ⟨ye1, fe1⟩ := Kd.R_celln 0 HS3.out.cb.en ((c + 1 : Nat) : Int) (by omega) (by omega)
                  rw [Int.toNat_natCast] at ye1 fe1
                  refine pure_ (i := 16) (N := some 103) (v := ?_) (a' := ?_) #[true, true, true, true, true, true, true, true, true, true, true, true, true, true, true, true, true, false] rfl rfl (by kernel_rfl) (fun _ _ _ h => h) (Or.inl ⟨by rfl, ?_⟩) ?_ ?_
                  rotate_left
                  · intro w'
                    go_simp
                    with_reducible rfl
                  rotate_left
                  · simp only [Act.put, List.setIfInBounds_toArray, List.set_cons_zero, List.set_cons_succ, i64_w, i32_w]
                    rfl
                  refine last_ (i := 17) (N := none) #[true, true, true, true, true, true, true, true, true, true, true, true, true, true, true, true, true, true] rfl rfl (by kernel_rfl) (by decide) (fun K hK => ?_)
                  refine skip_ (w1 := wx.setCell ⟨ge, c + 1, none⟩ (.int .i64 ea)) (by rfl) rfl ?_ ?_
                  · first | (go_simp; done) | (go_simp; rfl)
                  refine hK.out _ _ ?_
                  clear hK K
                  refine done_ (by kernel_rfl) ?_
                  clear ye1 fe1 e1 e2 e3 e4
                  go_wp2
                  go_roundw
                  case rel => first | exact ⟨c + 2, d2, _, _, _, by go_num, by omega, by omega, HQ2, ⟨by rw [List.length_set, List.length_set]; exact HV.out⟩, ⟨by rw [List.length_set, List.length_set]; exact HE.out⟩, ⟨set_bits _ _ _ (Or.inr rfl) (set_bits _ _ _ (Or.inl rfl) HBV.out)⟩, ⟨HS3.out.ent (c + 1) ea⟩⟩ | ((repeat apply Exists.intro); exact ⟨⟨c + 2, d2, _, _, _, by go_num, by omega, by omega, HQ2, ⟨by rw [List.length_set, List.length_set]; exact HV.out⟩, ⟨by rw [List.length_set, List.length_set]; exact HE.out⟩, ⟨set_bits _ _ _ (Or.inr rfl) (set_bits _ _ _ (Or.inl rfl) HBV.out)⟩, ⟨HS3.out.ent (c + 1) ea⟩⟩, rfl⟩)
                  case measure => simp [intOf]; omega
                · have HQ3 := HQ2.out
                  rw [if_neg hab] at HQ3
                  replace HQ2 := Aside0.mk HQ3
                  clear HQ3
                  by_cases ha1 : a = 1
                  · obtain rfl : b = 1 := by omega
                    subst ha1
                    clear hab hab0 hbb0
                    go_wp2
                    go_roundw
                    case rel => first | exact ⟨c + 2, d2, v, e, rs, by go_num, by omega, by omega, HQ2, HV, HE, HBV, HS⟩ | ((repeat apply Exists.intro); exact ⟨⟨c + 2, d2, v, e, rs, by go_num, by omega, by omega, HQ2, HV, HE, HBV, HS⟩, rfl⟩)
                    case measure => simp [intOf]; omega
                  · obtain rfl : a = 0 := by omega
                    clear hab hab0 hbb0 ha1
                    go_wp2
                    go_roundw
                    case rel => first | exact ⟨c + 2, d2, v, e, rs, by go_num, by omega, by omega, HQ2, HV, HE, HBV, HS⟩ | ((repeat apply Exists.intro); exact ⟨⟨c + 2, d2, v, e, rs, by go_num, by omega, by omega, HQ2, HV, HE, HBV, HS⟩, rfl⟩)
                    case measure => simp [intOf]; omega
              · have hq := HQ1.out
                rw [passL_end _ _ _ _ _ (by omega)] at hq
                obtain ⟨Ac, cc, ec⟩ := Kd.R_slice HS.out.cb.ce
                subst ec
                have hro := (Kd.R_reads' (HS.out.rows ((r : Int) + 1)).ro).2.2
                have hrl : rs.length = vs.length := (Kd.R_reads' HS.out.ro).1.symm
                rw [hrl] at hro
                have HRL := Aside0.mk hrl
                have HRO := Aside0.mk hro
                have HQE := Aside0.mk hq
                have z0 : wr.cell? ⟨g, 0, none⟩ = some (.int .i64 r) := (blk_cell HS.out.cb.box 0).trans rfl
                have z2 : wr.cell? ⟨g, 2, none⟩ = some (.slice Ac cs.length cc) := (blk_cell HS.out.cb.box 2).trans rfl
                have fz0 := blk_frozen HS.out.cb.box 0
                clear hro hrl hq HQ1 hvl hel
                go_wp2_with (first
                  | ((with_reducible refine gate_builtin (b := .append) (xs := #[.tmp 109, .tmp 110]) rfl ?_); at_builtin; refine Kd.R_append_rows k72 (w0 := w) w.heap.size rfl (.tmp 109) (.tmp 110) 37 72 (.agg #[.int .i64 0, .int .i64 0]) 16 rfl Try.underlying37 info72 rfl (by decide) (by omega) (.slice Ac cs.length cc) cs rs (some ⟨gr, 0, none⟩) vs.length cr (fun _ => True) (fun _ => False) rfl rfl ?aO ?aR (fun _ _ h => h) (fun _ h => h.elim) (fun _ _ => trivial) ?aB ?aS ?aL ?_; (case aO => exact (HS.out.rows ((r : Int) + 1)).cb.ce); (case aR => exact HRO.out); (case aB => exact (HS.out.rows ((r : Int) + 1)).cb.be); (case aS => exact (HS.out.rows ((r : Int) + 1)).cb.be.size); (case aL => omega); intro v99 w9 ho hb hg hat; obtain ⟨A9, c9, e9⟩ := Kd.R_slice ho; subst e9; obtain ⟨hx9, hc9⟩ := (HS.out.rows ((r : Int) + 1)).cb.app ho hb hg; have HC9 := Aside0.mk hc9; have y2 := (blk_cell hx9 2).trans rfl; have fy2 := blk_frozen hx9 2; clear ho hb hg hat HS HRO hx9 hc9 z0 z2 fz0)
                  | fail)
                have h_ := HC9.out
                rw [List.length_append] at h_
                have hq := HQE.out
                subst hq
                have HC10 := Aside0.mk h_
                clear h_ HC9 HQE
                go_roundg d
                case measure => omega
                case rel => exact ⟨r + 1, v, e, cs ++ rs, _, by go_num, by omega, by omega, ⟨⟨HL2.out.1, HL2.out.2.1, HL2.out.2.2⟩, HBP.out⟩, ⟨.inr ⟨by omega, HF2.out, HW2.out⟩⟩, HC10⟩
end Go.Proofs.Ytnccomklpfbcpaa.P
