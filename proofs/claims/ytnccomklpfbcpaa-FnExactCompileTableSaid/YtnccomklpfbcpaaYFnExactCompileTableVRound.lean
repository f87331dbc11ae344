/- The walks of the reference's cbBuild.round, cbBuild.sorted and cbMake (printed by gen_cb.py). -/
import Derived.Test.YtnccomklpfbcpaaZFnExactCompileTable0
import Derived.Test.YtnccomklpfbcpaaYFnExactCompileTableVCb
import Derived.IntWalk
namespace Go.Proofs.Ytnccomklpfbcpaa.P
open Go.RowKit Go.Proofs.YtnccomklpfbcpaaW.PrintWords Go.Proofs.YtnccomklpfbcpaaW.PrintLast Go.Proofs.YtnccomklpfbcpaaW.PrintMore Go.Proofs.Ytnccomklpfbcpaa.Own Go.Proofs.Ytnccomklpfbcpaa.A
set_option linter.unusedVariables false
set_option linter.unusedSimpArgs false
set_option maxHeartbeats 8000000 in
set_option maxRecDepth 100000 in
theorem round_own (w0 w : World) (g gv cv ge ce n : Nat) (vc : Value) (v e : List Int) (cs : List S72) (r : Nat) (h : Cb w0 w g (.slice (some ⟨gv, 0, none⟩) n cv) (.slice (some ⟨ge, 0, none⟩) n ce) vc v e cs r) (hv : v.length = n) (he : e.length = n) (hn1 : 1 ≤ n) (hn8 : n ≤ 8) (hr : r ≤ 1000) (hcs : cs.length ≤ 100000) :
    Calls Try.prog 54 #[.pointer (some ⟨g, 0, none⟩)] w fun e_ w' => e_ = .returned (.tuple #[]) ∧ ∃ vc', Cb w0 w' g (.slice (some ⟨gv, 0, none⟩) n cv) (.slice (some ⟨ge, 0, none⟩) n ce) vc' (passL n (r % 2) v e (List.replicate n ⟨0, 0⟩)).1 (passL n (r % 2) v e (List.replicate n ⟨0, 0⟩)).2.1 (cs ++ (passL n (r % 2) v e (List.replicate n ⟨0, 0⟩)).2.2) ((r + 1 : Nat) : Int) := by
  have hu72 := Try.underlying72
  have hu48 := Try.underlying48
  have H := Aside0.mk h
  obtain ⟨Q, hQ⟩ : ∃ Q, Q = passL n (r % 2) v e (List.replicate n ⟨0, 0⟩) := ⟨_, rfl⟩
  rw [← hQ]
  have HQ := Aside0.mk hQ.symm
  have HV := Aside0.mk hv
  have HE := Aside0.mk he
  have z0 : w.cell? ⟨g, 0, none⟩ = some (.slice (some ⟨gv, 0, none⟩) n cv) := (blk_cell h.box 0).trans rfl
  have z1 : w.cell? ⟨g, 1, none⟩ = some (.slice (some ⟨ge, 0, none⟩) n ce) := (blk_cell h.box 1).trans rfl
  have z2 : w.cell? ⟨g, 2, none⟩ = some (vc) := (blk_cell h.box 2).trans rfl
  have z3 : w.cell? ⟨g, 3, none⟩ = some (.int .i64 r) := (blk_cell h.box 3).trans rfl
  clear h hQ hv he
  go_enter Try.func54, Try.ntmps54
  go_wp2_with (first
    | ((with_reducible refine gate_dst (N := 10) rfl ?_); refine Kd.R_make k72 (w0 := w0) w0.heap.size 72 rfl (N := 10) rfl 37 _ _ rfl (n : Int) rfl rfl Try.underlying37 (.agg #[.int .i64 0, .int .i64 0]) 16 info72 rfl (by decide) (by omega) z72 (ok := fun k => some k ≠ vc.ownBlock) (okp := fun _ => False) (k72_mkM _ _ _ _) (fun _ hk => hk.elim) ?hf (by omega) (by omega) H.out.be H.out.be.size ?_; (case hf => exact (fun e_ => by have := Kd.R_lt H.out.ce _ e_.symm; omega)); intro v2 w2 hR hb hg _; rw [Int.toNat_natCast] at hR; obtain ⟨gr, cr, er, _, _, _⟩ := Kd.R_form hR (by simp; omega); replace er : v2 = .slice (some ⟨gr, 0, none⟩) n cr := (by rw [er]; simp); subst er; have HS : Aside0 (CbRow w0 w2 g gr n cr (.slice (some ⟨gv, 0, none⟩) n cv) (.slice (some ⟨ge, 0, none⟩) n ce) vc v e cs r (List.replicate n ⟨0, 0⟩)) := ⟨CbRow.new H.out hR hg⟩; clear hR hb hg z0 z1 z2 z3 H; have z3 : w2.cell? ⟨g, 3, none⟩ = some (.int .i64 r) := (blk_cell HS.out.cb.box 3).trans rfl)
    | fail)
  have em : ((r : Int) % 2) = ((r % 2 : Nat) : Int) := by omega
  (try rw [em])
  have hm2 : r % 2 < 2 := Nat.mod_lt _ (by omega)
  clear z3 em
  go_loopw [3, 4] (fun v3 v4 wr => ∃ (c d : Nat) (v e : List Int) (rs : List S72), v3 = .int .i64 c ∧ n ≤ c + d ∧ c ≤ n + 1 ∧ Aside0 (passL d c v e rs = Q) ∧ Aside0 (v.length = n) ∧ Aside0 (e.length = n) ∧ Aside0 (CbRow w0 wr g gr n cr (.slice (some ⟨gv, 0, none⟩) n cv) (.slice (some ⟨ge, 0, none⟩) n ce) vc v e cs r rs)) (fun i _ _ => n + 2 - (intOf i).toNat)
  case atStart => exact ⟨r % 2, n, v, e, _, rfl, by omega, by omega, HQ, HV, HE, HS⟩
  case round =>
    clear HQ HV HE HS
    obtain ⟨c, d, v, e, rs, rfl, hd, hc, HQ, HV, HE, HS⟩ := hrel
    have hvl := HV.out
    have hel := HE.out
    have z0 : wr.cell? ⟨g, 0, none⟩ = some (.slice (some ⟨gv, 0, none⟩) n cv) := (blk_cell HS.out.cb.box 0).trans rfl
    have z1 : wr.cell? ⟨g, 1, none⟩ = some (.slice (some ⟨ge, 0, none⟩) n ce) := (blk_cell HS.out.cb.box 1).trans rfl
    have z3 : wr.cell? ⟨g, 3, none⟩ = some (.int .i64 r) := (blk_cell HS.out.cb.box 3).trans rfl
    by_cases hlt : c + 1 < n
    · obtain ⟨d, rfl⟩ : ∃ m, d = m + 1 := ⟨d - 1, by omega⟩
      have hq := HQ.out
      rw [passL, if_pos (by omega)] at hq
      obtain ⟨a, ha⟩ : ∃ x, x = rd v (c : Int) := ⟨_, rfl⟩
      obtain ⟨b, hb⟩ : ∃ x, x = rd v ((c + 1 : Nat) : Int) := ⟨_, rfl⟩
      obtain ⟨ea, hea⟩ : ∃ x, x = rd e (c : Int) := ⟨_, rfl⟩
      obtain ⟨eb, heb⟩ : ∃ x, x = rd e ((c + 1 : Nat) : Int) := ⟨_, rfl⟩
      rw [← ha, ← hb, ← hea, ← heb] at hq
      obtain ⟨y0, fy0⟩ := Kd.R_celln 0 HS.out.cb.va (c : Int) (by omega) (by omega)
      obtain ⟨y1, fy1⟩ := Kd.R_celln 0 HS.out.cb.va ((c + 1 : Nat) : Int) (by omega) (by omega)
      rw [Int.toNat_natCast] at y0 y1
      replace y0 : wr.cell? ⟨gv, c, none⟩ = some (.int .i64 a) := by rw [ha]; exact y0
      replace y1 : wr.cell? ⟨gv, c + 1, none⟩ = some (.int .i64 b) := by rw [hb]; exact y1
      have HEA := Aside0.mk hea
      have HEB := Aside0.mk heb
      have HQ2 := Aside0.mk hq
      have hcn : c < n := by omega
      clear ha hb hea heb fy0 fy1 HQ z1 z3 hvl hel hq
      go_wp2
      have e1 : IntKind.i64.wrap ((c : Int) + 1) = (c : Int) + 1 := IntWalk.i64_in _ (by omega)
      have e2 : (0 : Int) ≤ (c : Int) + 1 := by omega
      have e3 : ((c : Int) + 1).toNat = c + 1 := by omega
      have e4 : (c : Int) + 1 < (n : Int) := by omega
      refine start_ (n := 16) (S := fun w' => w'.cell? ⟨g, 0, none⟩ = some (.slice (some ⟨gv, 0, none⟩) n cv) ∧ w'.cell? ⟨gv, c, none⟩ = some (.int .i64 a) ∧ w'.cell? ⟨gv, c + 1, none⟩ = some (.int .i64 b)) (ds := []) #[false, false, false, false, false, false, false, false, false, false, false, false, false, false, false, false] (by kernel_rfl) rfl rfl ⟨z0, y0, y1⟩ (fun hHeld => ?_)
      refine Own.anew_ (wN := wr) (by repeat (first | with_reducible exact Below.refl _ _ | with_reducible apply below_alloc | with_reducible apply pw_below_drewN | with_reducible apply below_drew1)) hHeld (fun wz hzb hHeld => ?_)
      replace HS := Aside0.mk (HS.out.below hzb)
      clear hzb z0 y0 y1
      refine pure_ (i := 0) (N := some 26) (v := ?_) (a' := ?_) #[true, false, false, false, false, false, false, false, false, false, false, false, false, false, false, false] rfl rfl (by kernel_rfl) (fun _ _ _ h => h) (Or.inl ⟨by rfl, ?_⟩) ?_ ?_
      rotate_left
      · intro w'
        go_simp
        with_reducible rfl
      rotate_left
      · simp only [Act.put, List.setIfInBounds_toArray, List.set_cons_zero, List.set_cons_succ, i64_w, i32_w]
        rfl
      refine pure_ (i := 1) (N := some 27) (v := ?_) (a' := ?_) #[true, true, false, false, false, false, false, false, false, false, false, false, false, false, false, false] rfl rfl (by kernel_rfl) (fun _ _ _ h => h) (Or.inl ⟨by rfl, ?_⟩) ?_ ?_
      rotate_left
      · intro w'
        go_simp
        with_reducible rfl
      rotate_left
      · simp only [Act.put, List.setIfInBounds_toArray, List.set_cons_zero, List.set_cons_succ, i64_w, i32_w]
        rfl
      refine pure_ (i := 2) (N := some 28) (v := ?_) (a' := ?_) #[true, true, true, false, false, false, false, false, false, false, false, false, false, false, false, false] rfl rfl (by kernel_rfl) (fun _ _ _ h => h) (Or.inl ⟨by rfl, ?_⟩) ?_ ?_
      rotate_left
      · intro w'
        go_simp
        with_reducible rfl
      rotate_left
      · simp only [Act.put, List.setIfInBounds_toArray, List.set_cons_zero, List.set_cons_succ, i64_w, i32_w]
        rfl
      refine take_ (i := 3) (N := some 29) (v := ?_) (a' := ?_) #[true, true, true, true, false, false, false, false, false, false, false, false, false, false, false, false] rfl rfl (by kernel_rfl) (fun _ _ _ h => h) (Or.inl ⟨by rfl, ?_⟩) hHeld ?_ ?_
      rotate_left
      · rintro w' ⟨s0, s1, s2⟩
        go_simp
        with_reducible rfl
      rotate_left
      · simp only [Act.put, List.setIfInBounds_toArray, List.set_cons_zero, List.set_cons_succ, i64_w, i32_w]
        rfl
      refine pure_ (i := 4) (N := some 30) (v := ?_) (a' := ?_) #[true, true, true, true, true, false, false, false, false, false, false, false, false, false, false, false] rfl rfl (by kernel_rfl) (fun _ _ _ h => h) (Or.inl ⟨by rfl, ?_⟩) ?_ ?_
      rotate_left
      · intro w'
        go_simp
        with_reducible rfl
      rotate_left
      · simp only [Act.put, List.setIfInBounds_toArray, List.set_cons_zero, List.set_cons_succ, i64_w, i32_w]
        rfl
      refine pure_ (i := 5) (N := some 31) (v := ?_) (a' := ?_) #[true, true, true, true, true, true, false, false, false, false, false, false, false, false, false, false] rfl rfl (by kernel_rfl) (fun _ _ _ h => h) (Or.inl ⟨by rfl, ?_⟩) ?_ ?_
      rotate_left
      · intro w'
        go_simp
        with_reducible rfl
      rotate_left
      · simp only [Act.put, List.setIfInBounds_toArray, List.set_cons_zero, List.set_cons_succ, i64_w, i32_w]
        rfl
      refine take_ (i := 6) (N := some 32) (v := ?_) (a' := ?_) #[true, true, true, true, true, true, true, false, false, false, false, false, false, false, false, false] rfl rfl (by kernel_rfl) (fun _ _ _ h => h) (Or.inl ⟨by rfl, ?_⟩) hHeld ?_ ?_
      rotate_left
      · rintro w' ⟨s0, s1, s2⟩
        go_simp
        with_reducible rfl
      rotate_left
      · simp only [Act.put, List.setIfInBounds_toArray, List.set_cons_zero, List.set_cons_succ, i64_w, i32_w]
        rfl
      refine pure_ (i := 7) (N := some 33) (v := ?_) (a' := ?_) #[true, true, true, true, true, true, true, true, false, false, false, false, false, false, false, false] rfl rfl (by kernel_rfl) (fun _ _ _ h => h) (Or.inl ⟨by rfl, ?_⟩) ?_ ?_
      rotate_left
      · intro w'
        go_simp
        with_reducible rfl
      rotate_left
      · simp only [Act.put, List.setIfInBounds_toArray, List.set_cons_zero, List.set_cons_succ, i64_w, i32_w]
        rfl
      refine pure_ (i := 8) (N := some 34) (v := ?_) (a' := ?_) #[true, true, true, true, true, true, true, true, true, false, false, false, false, false, false, false] rfl rfl (by kernel_rfl) (fun _ _ _ h => h) (Or.inl ⟨by rfl, ?_⟩) ?_ ?_
      rotate_left
      · intro w'
        go_simp
        with_reducible rfl
      rotate_left
      · simp only [Act.put, List.setIfInBounds_toArray, List.set_cons_zero, List.set_cons_succ, i64_w, i32_w]
        rfl
      refine pure_ (i := 9) (N := some 35) (v := ?_) (a' := ?_) #[true, true, true, true, true, true, true, true, true, true, false, false, false, false, false, false] rfl rfl (by kernel_rfl) (fun _ _ _ h => h) (Or.inl ⟨by rfl, ?_⟩) ?_ ?_
      rotate_left
      · intro w'
        go_simp
        with_reducible rfl
      rotate_left
      · simp only [Act.put, List.setIfInBounds_toArray, List.set_cons_zero, List.set_cons_succ, i64_w, i32_w]
        rfl
      refine take_ (i := 10) (N := some 36) (v := ?_) (a' := ?_) #[true, true, true, true, true, true, true, true, true, true, true, false, false, false, false, false] rfl rfl (by kernel_rfl) (fun _ _ _ h => h) (Or.inl ⟨by rfl, ?_⟩) hHeld ?_ ?_
      rotate_left
      · rintro w' ⟨s0, s1, s2⟩
        go_simp
        with_reducible rfl
      rotate_left
      · simp only [Act.put, List.setIfInBounds_toArray, List.set_cons_zero, List.set_cons_succ, i64_w, i32_w]
        rfl
      refine pure_ (i := 11) (N := some 37) (v := ?_) (a' := ?_) #[true, true, true, true, true, true, true, true, true, true, true, true, false, false, false, false] rfl rfl (by kernel_rfl) (fun _ _ _ h => h) (Or.inl ⟨by rfl, ?_⟩) ?_ ?_
      rotate_left
      · intro w'
        go_simp
        with_reducible rfl
      rotate_left
      · simp only [Act.put, List.setIfInBounds_toArray, List.set_cons_zero, List.set_cons_succ, i64_w, i32_w]
        rfl
      refine pure_ (i := 12) (N := some 38) (v := ?_) (a' := ?_) #[true, true, true, true, true, true, true, true, true, true, true, true, true, false, false, false] rfl rfl (by kernel_rfl) (fun _ _ _ h => h) (Or.inl ⟨by rfl, ?_⟩) ?_ ?_
      rotate_left
      · intro w'
        go_simp
        with_reducible rfl
      rotate_left
      · simp only [Act.put, List.setIfInBounds_toArray, List.set_cons_zero, List.set_cons_succ, i64_w, i32_w]
        rfl
      refine pure_ (i := 13) (N := some 39) (v := ?_) (a' := ?_) #[true, true, true, true, true, true, true, true, true, true, true, true, true, true, false, false] rfl rfl (by kernel_rfl) (fun _ _ _ h => h) (Or.inl ⟨by rfl, ?_⟩) ?_ ?_
      rotate_left
      · intro w'
        go_simp
        with_reducible rfl
      rotate_left
      · simp only [Act.put, List.setIfInBounds_toArray, List.set_cons_zero, List.set_cons_succ, i64_w, i32_w]
        rfl
      refine take_ (i := 14) (N := some 40) (v := ?_) (a' := ?_) #[true, true, true, true, true, true, true, true, true, true, true, true, true, true, true, false] rfl rfl (by kernel_rfl) (fun _ _ _ h => h) (Or.inl ⟨by rfl, ?_⟩) hHeld ?_ ?_
      rotate_left
      · rintro w' ⟨s0, s1, s2⟩
        go_simp
        with_reducible rfl
      rotate_left
      · simp only [Act.put, List.setIfInBounds_toArray, List.set_cons_zero, List.set_cons_succ, i64_w, i32_w]
        rfl
      refine pure_ (i := 15) (N := some 41) (v := ?_) (a' := ?_) #[true, true, true, true, true, true, true, true, true, true, true, true, true, true, true, true] rfl rfl (by kernel_rfl) (fun _ _ _ h => h) (Or.inl ⟨by rfl, ?_⟩) ?_ ?_
      rotate_left
      · intro w'
        go_simp
        with_reducible rfl
      rotate_left
      · simp only [Act.put, List.setIfInBounds_toArray, List.set_cons_zero, List.set_cons_succ, i64_w, i32_w]
        rfl
      refine done_ (by kernel_rfl) ?_
      clear hHeld e1 e2 e3 e4
      by_cases hab : b < a
      · have HQ3 := HQ2.out
        rw [if_pos hab] at HQ3
        replace HQ2 := Aside0.mk HQ3
        clear HQ3
        have d1 : decide (a ≤ b) = false := decide_eq_false (by omega)
        obtain ⟨h1, h2, h3, h4⟩ := HS.out.ne
        have z0 : wz.cell? ⟨g, 0, none⟩ = some (.slice (some ⟨gv, 0, none⟩) n cv) := (blk_cell HS.out.cb.box 0).trans rfl
        have z1 : wz.cell? ⟨g, 1, none⟩ = some (.slice (some ⟨ge, 0, none⟩) n ce) := (blk_cell HS.out.cb.box 1).trans rfl
        have fz := blk_frozen HS.out.cb.box 0
        obtain ⟨_, ⟨x0, hx0⟩, ⟨x1, hx1⟩, fx0, fx1⟩ := cellPut HS.out.ro c (by omega) ⟨2, 0⟩
        obtain ⟨_, ⟨x2, hx2⟩, ⟨x3, hx3⟩, fx2, fx3⟩ := cellPut HS.out.ro (c + 1) (by omega) ⟨1, 0⟩
        obtain ⟨yv0, fv0⟩ := Kd.R_celln 0 HS.out.cb.va (c : Int) (by omega) (by omega)
        obtain ⟨yv1, fv1⟩ := Kd.R_celln 0 HS.out.cb.va ((c + 1 : Nat) : Int) (by omega) (by omega)
        obtain ⟨ye0, fe0⟩ := Kd.R_celln 0 HS.out.cb.en (c : Int) (by omega) (by omega)
        rw [Int.toNat_natCast] at yv0 yv1 fv0 fv1 ye0 fe0
        replace ye0 : wz.cell? ⟨ge, c, none⟩ = some (.int .i64 ea) := by rw [HEA.out]; exact ye0
        have n1 : gr ≠ gv := fun e_ => h2 (by rw [e_]; rfl)
        have n2 : gr ≠ ge := fun e_ => h3 (by rw [e_]; rfl)
        have n3 : gv ≠ ge := fun e_ => HS.out.cb.va.1 gv rfl (by rw [e_]; rfl)
        have n4 : g ≠ gv := fun e_ => HS.out.cb.nev (by rw [e_]; rfl)
        have n5 : g ≠ ge := fun e_ => HS.out.cb.nee (by rw [e_]; rfl)
        have n6 := h1
        clear h1 h2 h3 h4
        have m1 := n1.symm
        have m2 := n2.symm
        have m3 := n3.symm
        have m4 := n4.symm
        have m5 := n5.symm
        have m6 := n6.symm
        go_wp2
        have HS2 : Aside0 (CbRow w0 ((((((wz.setCell ⟨gr, c * 2, none⟩ (.int .i64 2)).setCell ⟨gr, c * 2 + 1, none⟩ (.int .i64 0)).setCell ⟨gr, (c + 1) * 2, none⟩ (.int .i64 1)).setCell ⟨gr, (c + 1) * 2 + 1, none⟩ (.int .i64 0)).setCell ⟨gv, c, none⟩ (.int .i64 0)).setCell ⟨gv, c + 1, none⟩ (.int .i64 1)) g gr n cr (.slice (some ⟨gv, 0, none⟩) n cv) (.slice (some ⟨ge, 0, none⟩) n ce) vc ((v.set c 0).set (c + 1) 1) e cs r ((rs.set c ⟨2, 0⟩).set (c + 1) ⟨1, 0⟩)) := ⟨(((HS.out.put c (by omega) ⟨2, 0⟩).put (c + 1) (by omega) ⟨1, 0⟩).val c 0).val (c + 1) 1⟩
        clear HS z0 z1 fz hx0 hx1 fx0 fx1 hx2 hx3 fx2 fx3 yv0 fv0 yv1 fv1 ye0 fe0
        generalize ((((((wz.setCell ⟨gr, c * 2, none⟩ (.int .i64 2)).setCell ⟨gr, c * 2 + 1, none⟩ (.int .i64 0)).setCell ⟨gr, (c + 1) * 2, none⟩ (.int .i64 1)).setCell ⟨gr, (c + 1) * 2 + 1, none⟩ (.int .i64 0)).setCell ⟨gv, c, none⟩ (.int .i64 0)).setCell ⟨gv, c + 1, none⟩ (.int .i64 1)) = wq at HS2 ⊢
        have z1 : wq.cell? ⟨g, 1, none⟩ = some (.slice (some ⟨ge, 0, none⟩) n ce) := (blk_cell HS2.out.cb.box 1).trans rfl
        obtain ⟨ye0, fe0⟩ := Kd.R_celln 0 HS2.out.cb.en (c : Int) (by omega) (by omega)
        obtain ⟨ye1, fe1⟩ := Kd.R_celln 0 HS2.out.cb.en ((c + 1 : Nat) : Int) (by omega) (by omega)
        rw [Int.toNat_natCast] at ye0 fe0 ye1 fe1
        replace ye0 : wq.cell? ⟨ge, c, none⟩ = some (.int .i64 ea) := by rw [HEA.out]; exact ye0
        replace ye1 : wq.cell? ⟨ge, c + 1, none⟩ = some (.int .i64 eb) := by rw [HEB.out]; exact ye1
        have e1 : IntKind.i64.wrap ((c : Int) + 1) = (c : Int) + 1 := IntWalk.i64_in _ (by omega)
        have e2 : (0 : Int) ≤ (c : Int) + 1 := by omega
        have e3 : ((c : Int) + 1).toNat = c + 1 := by omega
        have e4 : (c : Int) + 1 < (n : Int) := by omega
        refine start_ (n := 15) (S := fun w' => w'.cell? ⟨g, 1, none⟩ = some (.slice (some ⟨ge, 0, none⟩) n ce) ∧ w'.cell? ⟨ge, c + 1, none⟩ = some (.int .i64 eb)) (ds := [14]) #[false, false, false, false, false, false, false, false, false, false, false, false, false, false, false] (by kernel_rfl) rfl rfl ⟨z1, ye1⟩ (fun hHeld => ?_)
        refine Own.anew_ (wN := wq) (by repeat (first | with_reducible exact Below.refl _ _ | with_reducible apply below_alloc | with_reducible apply pw_below_drewN | with_reducible apply below_drew1)) hHeld (fun wy hzb hHeld => ?_)
        have fe0 := (Below.frozen (p := ⟨ge, c, none⟩) hzb (Kd.R_lt HS2.out.cb.en ge rfl)).trans fe0
        have ye0 := (hzb.cell (World.block_lt_of_cell? wq _ ye0)).trans ye0
        replace HS2 := Aside0.mk (HS2.out.below hzb)
        clear hzb z1 ye1 fe1
        refine pure_ (i := 0) (N := some 71) (v := ?_) (a' := ?_) #[true, false, false, false, false, false, false, false, false, false, false, false, false, false, false] rfl rfl (by kernel_rfl) (fun _ _ _ h => h) (Or.inl ⟨by rfl, ?_⟩) ?_ ?_
        rotate_left
        · intro w'
          go_simp
          with_reducible rfl
        rotate_left
        · simp only [Act.put, List.setIfInBounds_toArray, List.set_cons_zero, List.set_cons_succ, i64_w, i32_w]
          rfl
        refine pure_ (i := 1) (N := some 72) (v := ?_) (a' := ?_) #[true, true, false, false, false, false, false, false, false, false, false, false, false, false, false] rfl rfl (by kernel_rfl) (fun _ _ _ h => h) (Or.inl ⟨by rfl, ?_⟩) ?_ ?_
        rotate_left
        · intro w'
          go_simp
          with_reducible rfl
        rotate_left
        · simp only [Act.put, List.setIfInBounds_toArray, List.set_cons_zero, List.set_cons_succ, i64_w, i32_w]
          rfl
        refine pure_ (i := 2) (N := some 73) (v := ?_) (a' := ?_) #[true, true, true, false, false, false, false, false, false, false, false, false, false, false, false] rfl rfl (by kernel_rfl) (fun _ _ _ h => h) (Or.inl ⟨by rfl, ?_⟩) ?_ ?_
        rotate_left
        · intro w'
          go_simp
          with_reducible rfl
        rotate_left
        · simp only [Act.put, List.setIfInBounds_toArray, List.set_cons_zero, List.set_cons_succ, i64_w, i32_w]
          rfl
        refine take_ (i := 3) (N := some 74) (v := ?_) (a' := ?_) #[true, true, true, true, false, false, false, false, false, false, false, false, false, false, false] rfl rfl (by kernel_rfl) (fun _ _ _ h => h) (Or.inl ⟨by rfl, ?_⟩) hHeld ?_ ?_
        rotate_left
        · rintro w' ⟨s0, s1⟩
          go_simp
          with_reducible rfl
        rotate_left
        · simp only [Act.put, List.setIfInBounds_toArray, List.set_cons_zero, List.set_cons_succ, i64_w, i32_w]
          rfl
        refine pure_ (i := 4) (N := some 75) (v := ?_) (a' := ?_) #[true, true, true, true, true, false, false, false, false, false, false, false, false, false, false] rfl rfl (by kernel_rfl) (fun _ _ _ h => h) (Or.inl ⟨by rfl, ?_⟩) ?_ ?_
        rotate_left
        · intro w'
          go_simp
          with_reducible rfl
        rotate_left
        · simp only [Act.put, List.setIfInBounds_toArray, List.set_cons_zero, List.set_cons_succ, i64_w, i32_w]
          rfl
        refine pure_ (i := 5) (N := some 76) (v := ?_) (a' := ?_) #[true, true, true, true, true, true, false, false, false, false, false, false, false, false, false] rfl rfl (by kernel_rfl) (fun _ _ _ h => h) (Or.inl ⟨by rfl, ?_⟩) ?_ ?_
        rotate_left
        · intro w'
          go_simp
          with_reducible rfl
        rotate_left
        · simp only [Act.put, List.setIfInBounds_toArray, List.set_cons_zero, List.set_cons_succ, i64_w, i32_w]
          rfl
        refine pure_ (i := 6) (N := some 77) (v := ?_) (a' := ?_) #[true, true, true, true, true, true, true, false, false, false, false, false, false, false, false] rfl rfl (by kernel_rfl) (fun _ _ _ h => h) (Or.inl ⟨by rfl, ?_⟩) ?_ ?_
        rotate_left
        · intro w'
          go_simp
          with_reducible rfl
        rotate_left
        · simp only [Act.put, List.setIfInBounds_toArray, List.set_cons_zero, List.set_cons_succ, i64_w, i32_w]
          rfl
        refine pure_ (i := 7) (N := some 78) (v := ?_) (a' := ?_) #[true, true, true, true, true, true, true, true, false, false, false, false, false, false, false] rfl rfl (by kernel_rfl) (fun _ _ _ h => h) (Or.inl ⟨by rfl, ?_⟩) ?_ ?_
        rotate_left
        · intro w'
          go_simp
          with_reducible rfl
        rotate_left
        · simp only [Act.put, List.setIfInBounds_toArray, List.set_cons_zero, List.set_cons_succ, i64_w, i32_w]
          rfl
        refine take_ (i := 8) (N := some 79) (v := ?_) (a' := ?_) #[true, true, true, true, true, true, true, true, true, false, false, false, false, false, false] rfl rfl (by kernel_rfl) (fun _ _ _ h => h) (Or.inl ⟨by rfl, ?_⟩) hHeld ?_ ?_
        rotate_left
        · rintro w' ⟨s0, s1⟩
          go_simp
          with_reducible rfl
        rotate_left
        · simp only [Act.put, List.setIfInBounds_toArray, List.set_cons_zero, List.set_cons_succ, i64_w, i32_w]
          rfl
        refine pure_ (i := 9) (N := some 80) (v := ?_) (a' := ?_) #[true, true, true, true, true, true, true, true, true, true, false, false, false, false, false] rfl rfl (by kernel_rfl) (fun _ _ _ h => h) (Or.inl ⟨by rfl, ?_⟩) ?_ ?_
        rotate_left
        · intro w'
          go_simp
          with_reducible rfl
        rotate_left
        · simp only [Act.put, List.setIfInBounds_toArray, List.set_cons_zero, List.set_cons_succ, i64_w, i32_w]
          rfl
        refine pure_ (i := 10) (N := some 81) (v := ?_) (a' := ?_) #[true, true, true, true, true, true, true, true, true, true, true, false, false, false, false] rfl rfl (by kernel_rfl) (fun _ _ _ h => h) (Or.inl ⟨by rfl, ?_⟩) ?_ ?_
        rotate_left
        · intro w'
          go_simp
          with_reducible rfl
        rotate_left
        · simp only [Act.put, List.setIfInBounds_toArray, List.set_cons_zero, List.set_cons_succ, i64_w, i32_w]
          rfl
        refine pure_ (i := 11) (N := some 82) (v := ?_) (a' := ?_) #[true, true, true, true, true, true, true, true, true, true, true, true, false, false, false] rfl rfl (by kernel_rfl) (fun _ _ _ h => h) (Or.inl ⟨by rfl, ?_⟩) ?_ ?_
        rotate_left
        · intro w'
          go_simp
          with_reducible rfl
        rotate_left
        · simp only [Act.put, List.setIfInBounds_toArray, List.set_cons_zero, List.set_cons_succ, i64_w, i32_w]
          rfl
        refine take_ (i := 12) (N := some 83) (v := ?_) (a' := ?_) #[true, true, true, true, true, true, true, true, true, true, true, true, true, false, false] rfl rfl (by kernel_rfl) (fun _ _ _ h => h) (Or.inl ⟨by rfl, ?_⟩) hHeld ?_ ?_
        rotate_left
        · rintro w' ⟨s0, s1⟩
          go_simp
          with_reducible rfl
        rotate_left
        · simp only [Act.put, List.setIfInBounds_toArray, List.set_cons_zero, List.set_cons_succ, i64_w, i32_w]
          rfl
        refine pure_ (i := 13) (N := some 84) (v := ?_) (a' := ?_) #[true, true, true, true, true, true, true, true, true, true, true, true, true, true, false] rfl rfl (by kernel_rfl) (fun _ _ _ h => h) (Or.inl ⟨by rfl, ?_⟩) ?_ ?_
        rotate_left
        · intro w'
          go_simp
          with_reducible rfl
        rotate_left
        · simp only [Act.put, List.setIfInBounds_toArray, List.set_cons_zero, List.set_cons_succ, i64_w, i32_w]
          rfl
        refine last_ (i := 14) (N := none) #[true, true, true, true, true, true, true, true, true, true, true, true, true, true, true] rfl rfl (by kernel_rfl) (by decide) (fun K hK => ?_)
        refine skip_ (w1 := wy.setCell ⟨ge, c, none⟩ (.int .i64 eb)) (by rfl) rfl ?_ ?_
        · first | (go_simp; done) | (go_simp; rfl)
        refine hK.out _ _ ?_
        clear hK K
        refine done_ (by kernel_rfl) ?_
        clear hHeld ye0 fe0 e1 e2 e3 e4
        have HS3 := Aside0.mk (HS2.out.ent c eb)
        clear HS2
        generalize wy.setCell ⟨ge, c, none⟩ (.int .i64 eb) = wx at HS3 ⊢
        have z1 : wx.cell? ⟨g, 1, none⟩ = some (.slice (some ⟨ge, 0, none⟩) n ce) := (blk_cell HS3.out.cb.box 1).trans rfl
        obtain ⟨ye1, fe1⟩ := Kd.R_celln 0 HS3.out.cb.en ((c + 1 : Nat) : Int) (by omega) (by omega)
        rw [Int.toNat_natCast] at ye1 fe1
        go_wp2
        go_roundw
        case rel => first | exact ⟨c + 2, d, _, _, _, by go_num, by omega, by omega, HQ2, ⟨by rw [List.length_set, List.length_set]; exact HV.out⟩, ⟨by rw [List.length_set, List.length_set]; exact HE.out⟩, ⟨HS3.out.ent (c + 1) ea⟩⟩ | ((repeat apply Exists.intro); exact ⟨⟨c + 2, d, _, _, _, by go_num, by omega, by omega, HQ2, ⟨by rw [List.length_set, List.length_set]; exact HV.out⟩, ⟨by rw [List.length_set, List.length_set]; exact HE.out⟩, ⟨HS3.out.ent (c + 1) ea⟩⟩, rfl⟩)
        case measure => simp [intOf]; omega
      · have HQ3 := HQ2.out
        rw [if_neg hab] at HQ3
        replace HQ2 := Aside0.mk HQ3
        clear HQ3
        have d1 : decide (a ≤ b) = true := decide_eq_true (by omega)
        go_wp2
        go_roundw
        case rel => first | exact ⟨c + 2, d, v, e, rs, by go_num, by omega, by omega, HQ2, HV, HE, HS⟩ | ((repeat apply Exists.intro); exact ⟨⟨c + 2, d, v, e, rs, by go_num, by omega, by omega, HQ2, HV, HE, HS⟩, rfl⟩)
        case measure => simp [intOf]; omega
    · have hq := HQ.out
      rw [passL_end _ _ _ _ _ (by omega)] at hq
      subst hq
      have z2 : wr.cell? ⟨g, 2, none⟩ = some vc := (blk_cell HS.out.cb.box 2).trans rfl
      obtain ⟨Ac, cc, ec⟩ := Kd.R_slice HS.out.cb.ce
      subst ec
      clear HQ
      have hro := (Kd.R_reads' HS.out.ro).2.2
      have hrl : rs.length = n := (Kd.R_reads' HS.out.ro).1.symm
      have HRO := Aside0.mk hro
      have HRL := Aside0.mk hrl
      clear hro hrl hvl hel
      go_wp2_with (first
        | ((with_reducible refine gate_builtin (b := .append) (xs := #[.tmp 97, .tmp 98]) rfl ?_); at_builtin; refine Kd.R_append_rows k72 (w0 := w0) w0.heap.size rfl (.tmp 97) (.tmp 98) 37 72 (.agg #[.int .i64 0, .int .i64 0]) 16 rfl Try.underlying37 info72 rfl (by decide) (by omega) (.slice Ac cs.length cc) cs rs (some ⟨gr, 0, none⟩) n cr (fun _ => True) (fun _ => False) rfl rfl ?aO ?aR (fun _ _ h => h) (fun _ h => h.elim) (fun _ _ => trivial) ?aB ?aS ?aL ?_; (case aO => exact HS.out.cb.ce); (case aR => rw [HRL.out] at HRO; exact HRO.out); (case aB => exact HS.out.cb.be); (case aS => exact HS.out.cb.be.size); (case aL => omega); intro v99 w9 ho hb hg hat; obtain ⟨A9, c9, e9⟩ := Kd.R_slice ho; subst e9; obtain ⟨hx9, hc9⟩ := HS.out.cb.app ho hb hg; have HC9 := Aside0.mk hc9; have z2 := (blk_cell hx9 2).trans rfl; have fz2 := blk_frozen hx9 2; have z3 : w9.cell? ⟨g, 3, none⟩ = some (.int .i64 r) := (blk_cell hx9 3).trans rfl; have fz3 := blk_frozen hx9 3; clear ho hb hg hat HS HRO hx9 hc9 z0 z1)
        | fail)
      go_end0
      have h_ := HC9.out.rows ((r : Int) + 1)
      rw [List.length_append] at h_
      exact ⟨rfl, _, h_⟩
theorem srtF_end (d i : Nat) (v : List Int) (h : ¬ i + 1 < v.length) : srtF d i v = true := by
  cases d with
  | zero => rfl
  | succ d => rw [srtF, if_neg h]
set_option maxHeartbeats 4000000 in
set_option maxRecDepth 100000 in
theorem sorted_own (w0 w : World) (g gv cv n : Nat) (ve vc : Value) (v e : List Int) (cs : List S72) (r : Int) (b : Bool) (h : Cb w0 w g (.slice (some ⟨gv, 0, none⟩) n cv) ve vc v e cs r) (hv : v.length = n) (hn1 : 1 ≤ n) (hn8 : n ≤ 8) (hs : srtL v = b) :
    Calls Try.prog 55 #[.pointer (some ⟨g, 0, none⟩)] w fun e_ w' => e_ = .returned (.bool b) ∧ Below w.heap.size w w' := by
  have hu48 := Try.underlying48
  have H := Aside0.mk h
  have HV := Aside0.mk hv
  have HS : Aside0 (srtF n 0 v = b) := ⟨by rw [← hs, ← hv]; rfl⟩
  clear h hv hs
  go_enter Try.func55, Try.ntmps55
  go_wp2
  go_loopw [3] (fun v3 wr => ∃ (c d : Nat), v3 = .int .i64 ((c + 1 : Nat) : Int) ∧ n ≤ c + d ∧ c ≤ n ∧ Aside0 (srtF d c v = b) ∧ Aside0 (Below w.heap.size w wr)) (fun i _ => n + 2 - (intOf i).toNat)
  case atStart => exact ⟨0, n, rfl, by omega, by omega, HS, ⟨Below.refl _ _⟩⟩
  case round =>
    clear HS
    obtain ⟨c, d, rfl, hd, hc, HS, HB⟩ := hrel
    have HC := Aside0.mk (H.out.below HB.out)
    have hvl := HV.out
    have z0 : wr.cell? ⟨g, 0, none⟩ = some (.slice (some ⟨gv, 0, none⟩) n cv) := (blk_cell HC.out.box 0).trans rfl
    by_cases hlt : c + 1 < n
    · obtain ⟨d, rfl⟩ : ∃ m, d = m + 1 := ⟨d - 1, by omega⟩
      have hq := HS.out
      rw [srtF, if_pos (by omega)] at hq
      obtain ⟨a, ha⟩ : ∃ x, x = rd v (c : Int) := ⟨_, rfl⟩
      obtain ⟨a2, hb⟩ : ∃ x, x = rd v ((c + 1 : Nat) : Int) := ⟨_, rfl⟩
      rw [← ha, ← hb] at hq
      obtain ⟨y0, _⟩ := Kd.R_celln 0 HC.out.va (c : Int) (by omega) (by omega)
      obtain ⟨y1, _⟩ := Kd.R_celln 0 HC.out.va ((c + 1 : Nat) : Int) (by omega) (by omega)
      rw [Int.toNat_natCast] at y0 y1
      replace y0 : wr.cell? ⟨gv, c, none⟩ = some (.int .i64 a) := by rw [ha]; exact y0
      replace y1 : wr.cell? ⟨gv, c + 1, none⟩ = some (.int .i64 a2) := by rw [hb]; exact y1
      have HQ := Aside0.mk hq
      clear ha hb hq HS hvl HC
      go_wp2
      have e1 : IntKind.i64.wrap (((c + 1 : Nat) : Int) - 1) = (c : Int) := (IntWalk.i64_in _ (by omega)).trans (by omega)
      have e5 : ((c + 1 : Nat) : Int).toNat = c + 1 := by omega
      have e6 : (0 : Int) ≤ ((c + 1 : Nat) : Int) := by omega
      have e7 : ((c + 1 : Nat) : Int) < (n : Int) := by omega
      have e8 : (c : Int) < (n : Int) := by omega
      have ew : wrap64 (c : Int) = (c : Int) := by unfold wrap64; omega
      have e2 : (0 : Int) ≤ (c : Int) + 1 := by omega
      have e3 : ((c : Int) + 1).toNat = c + 1 := by omega
      have e4 : (c : Int) + 1 < (n : Int) := by omega
      have hcn : c < n := by omega
      refine start_ (n := 16) (S := fun w' => w'.cell? ⟨g, 0, none⟩ = some (.slice (some ⟨gv, 0, none⟩) n cv) ∧ w'.cell? ⟨gv, c, none⟩ = some (.int .i64 a) ∧ w'.cell? ⟨gv, c + 1, none⟩ = some (.int .i64 a2)) (ds := []) #[false, false, false, false, false, false, false, false, false, false, false, false, false, false, false, false] (by kernel_rfl) rfl rfl ⟨z0, y0, y1⟩ (fun hHeld => ?_)
      refine Own.anew_ (wN := wr) (by repeat (first | with_reducible exact Below.refl _ _ | with_reducible apply below_alloc | with_reducible apply pw_below_drewN | with_reducible apply below_drew1)) hHeld (fun wz hzb hHeld => ?_)
      replace HB := Aside0.mk (below_step HB.out hzb)
      clear hzb z0 y0 y1
      refine pure_ (i := 0) (N := some 13) (v := ?_) (a' := ?_) #[true, false, false, false, false, false, false, false, false, false, false, false, false, false, false, false] rfl rfl (by kernel_rfl) (fun _ _ _ h => h) (Or.inl ⟨by rfl, ?_⟩) ?_ ?_
      rotate_left
      · intro w'
        go_simp
        with_reducible rfl
      rotate_left
      · simp only [Act.put, List.setIfInBounds_toArray, List.set_cons_zero, List.set_cons_succ, i64_w, i32_w]
        rfl
      refine pure_ (i := 1) (N := some 14) (v := ?_) (a' := ?_) #[true, true, false, false, false, false, false, false, false, false, false, false, false, false, false, false] rfl rfl (by kernel_rfl) (fun _ _ _ h => h) (Or.inl ⟨by rfl, ?_⟩) ?_ ?_
      rotate_left
      · intro w'
        go_simp
        with_reducible rfl
      rotate_left
      · simp only [Act.put, List.setIfInBounds_toArray, List.set_cons_zero, List.set_cons_succ, i64_w, i32_w]
        rfl
      refine pure_ (i := 2) (N := some 15) (v := ?_) (a' := ?_) #[true, true, true, false, false, false, false, false, false, false, false, false, false, false, false, false] rfl rfl (by kernel_rfl) (fun _ _ _ h => h) (Or.inl ⟨by rfl, ?_⟩) ?_ ?_
      rotate_left
      · intro w'
        go_simp
        with_reducible rfl
      rotate_left
      · simp only [Act.put, List.setIfInBounds_toArray, List.set_cons_zero, List.set_cons_succ, i64_w, i32_w]
        rfl
      refine take_ (i := 3) (N := some 16) (v := ?_) (a' := ?_) #[true, true, true, true, false, false, false, false, false, false, false, false, false, false, false, false] rfl rfl (by kernel_rfl) (fun _ _ _ h => h) (Or.inl ⟨by rfl, ?_⟩) hHeld ?_ ?_
      rotate_left
      · rintro w' ⟨s0, s1, s2⟩
        go_simp
        with_reducible rfl
      rotate_left
      · simp only [Act.put, List.setIfInBounds_toArray, List.set_cons_zero, List.set_cons_succ, i64_w, i32_w]
        rfl
      refine pure_ (i := 4) (N := some 17) (v := ?_) (a' := ?_) #[true, true, true, true, true, false, false, false, false, false, false, false, false, false, false, false] rfl rfl (by kernel_rfl) (fun _ _ _ h => h) (Or.inl ⟨by rfl, ?_⟩) ?_ ?_
      rotate_left
      · intro w'
        go_simp
        with_reducible rfl
      rotate_left
      · simp only [Act.put, List.setIfInBounds_toArray, List.set_cons_zero, List.set_cons_succ, i64_w, i32_w]
        rfl
      refine pure_ (i := 5) (N := some 18) (v := ?_) (a' := ?_) #[true, true, true, true, true, true, false, false, false, false, false, false, false, false, false, false] rfl rfl (by kernel_rfl) (fun _ _ _ h => h) (Or.inl ⟨by rfl, ?_⟩) ?_ ?_
      rotate_left
      · intro w'
        go_simp
        with_reducible rfl
      rotate_left
      · simp only [Act.put, List.setIfInBounds_toArray, List.set_cons_zero, List.set_cons_succ, i64_w, i32_w]
        rfl
      refine pure_ (i := 6) (N := some 19) (v := ?_) (a' := ?_) #[true, true, true, true, true, true, true, false, false, false, false, false, false, false, false, false] rfl rfl (by kernel_rfl) (fun _ _ _ h => h) (Or.inl ⟨by rfl, ?_⟩) ?_ ?_
      rotate_left
      · intro w'
        go_simp
        with_reducible rfl
      rotate_left
      · simp only [Act.put, List.setIfInBounds_toArray, List.set_cons_zero, List.set_cons_succ, i64_w, i32_w]
        rfl
      refine take_ (i := 7) (N := some 20) (v := ?_) (a' := ?_) #[true, true, true, true, true, true, true, true, false, false, false, false, false, false, false, false] rfl rfl (by kernel_rfl) (fun _ _ _ h => h) (Or.inl ⟨by rfl, ?_⟩) hHeld ?_ ?_
      rotate_left
      · rintro w' ⟨s0, s1, s2⟩
        go_simp
        with_reducible rfl
      rotate_left
      · simp only [Act.put, List.setIfInBounds_toArray, List.set_cons_zero, List.set_cons_succ, i64_w, i32_w]
        rfl
      refine pure_ (i := 8) (N := some 21) (v := ?_) (a' := ?_) #[true, true, true, true, true, true, true, true, true, false, false, false, false, false, false, false] rfl rfl (by kernel_rfl) (fun _ _ _ h => h) (Or.inl ⟨by rfl, ?_⟩) ?_ ?_
      rotate_left
      · intro w'
        go_simp
        with_reducible rfl
      rotate_left
      · simp only [Act.put, List.setIfInBounds_toArray, List.set_cons_zero, List.set_cons_succ, i64_w, i32_w]
        rfl
      refine pure_ (i := 9) (N := some 22) (v := ?_) (a' := ?_) #[true, true, true, true, true, true, true, true, true, true, false, false, false, false, false, false] rfl rfl (by kernel_rfl) (fun _ _ _ h => h) (Or.inl ⟨by rfl, ?_⟩) ?_ ?_
      rotate_left
      · intro w'
        go_simp
        with_reducible rfl
      rotate_left
      · simp only [Act.put, List.setIfInBounds_toArray, List.set_cons_zero, List.set_cons_succ, i64_w, i32_w]
        rfl
      refine pure_ (i := 10) (N := some 23) (v := ?_) (a' := ?_) #[true, true, true, true, true, true, true, true, true, true, true, false, false, false, false, false] rfl rfl (by kernel_rfl) (fun _ _ _ h => h) (Or.inl ⟨by rfl, ?_⟩) ?_ ?_
      rotate_left
      · intro w'
        go_simp
        with_reducible rfl
      rotate_left
      · simp only [Act.put, List.setIfInBounds_toArray, List.set_cons_zero, List.set_cons_succ, i64_w, i32_w]
        rfl
      refine take_ (i := 11) (N := some 24) (v := ?_) (a' := ?_) #[true, true, true, true, true, true, true, true, true, true, true, true, false, false, false, false] rfl rfl (by kernel_rfl) (fun _ _ _ h => h) (Or.inl ⟨by rfl, ?_⟩) hHeld ?_ ?_
      rotate_left
      · rintro w' ⟨s0, s1, s2⟩
        go_simp
        with_reducible rfl
      rotate_left
      · simp only [Act.put, List.setIfInBounds_toArray, List.set_cons_zero, List.set_cons_succ, i64_w, i32_w]
        rfl
      refine pure_ (i := 12) (N := some 25) (v := ?_) (a' := ?_) #[true, true, true, true, true, true, true, true, true, true, true, true, true, false, false, false] rfl rfl (by kernel_rfl) (fun _ _ _ h => h) (Or.inl ⟨by rfl, ?_⟩) ?_ ?_
      rotate_left
      · intro w'
        go_simp
        with_reducible rfl
      rotate_left
      · simp only [Act.put, List.setIfInBounds_toArray, List.set_cons_zero, List.set_cons_succ, i64_w, i32_w]
        rfl
      refine pure_ (i := 13) (N := some 26) (v := ?_) (a' := ?_) #[true, true, true, true, true, true, true, true, true, true, true, true, true, true, false, false] rfl rfl (by kernel_rfl) (fun _ _ _ h => h) (Or.inl ⟨by rfl, ?_⟩) ?_ ?_
      rotate_left
      · intro w'
        go_simp
        with_reducible rfl
      rotate_left
      · simp only [Act.put, List.setIfInBounds_toArray, List.set_cons_zero, List.set_cons_succ, i64_w, i32_w]
        rfl
      refine take_ (i := 14) (N := some 27) (v := ?_) (a' := ?_) #[true, true, true, true, true, true, true, true, true, true, true, true, true, true, true, false] rfl rfl (by kernel_rfl) (fun _ _ _ h => h) (Or.inl ⟨by rfl, ?_⟩) hHeld ?_ ?_
      rotate_left
      · rintro w' ⟨s0, s1, s2⟩
        go_simp
        with_reducible rfl
      rotate_left
      · simp only [Act.put, List.setIfInBounds_toArray, List.set_cons_zero, List.set_cons_succ, i64_w, i32_w]
        rfl
      refine pure_ (i := 15) (N := some 28) (v := ?_) (a' := ?_) #[true, true, true, true, true, true, true, true, true, true, true, true, true, true, true, true] rfl rfl (by kernel_rfl) (fun _ _ _ h => h) (Or.inl ⟨by rfl, ?_⟩) ?_ ?_
      rotate_left
      · intro w'
        go_simp
        with_reducible rfl
      rotate_left
      · simp only [Act.put, List.setIfInBounds_toArray, List.set_cons_zero, List.set_cons_succ, i64_w, i32_w]
        rfl
      refine done_ (by kernel_rfl) ?_
      clear hHeld e1 e5 e6 e7 e8 ew e2 e3 e4
      by_cases hab : a2 < a
      · have hq := HQ.out
        rw [if_pos hab] at hq
        subst hq
        have d1 : decide (a > a2) = true := decide_eq_true hab
        have d2 : decide (a2 < a) = true := decide_eq_true hab
        go_wp2
        go_ret
        exact ⟨rfl, HB.out⟩
      · have hq := HQ.out
        rw [if_neg hab] at hq
        have HQ2 := Aside0.mk hq
        have d1 : decide (a > a2) = false := decide_eq_false hab
        have d2 : decide (a2 < a) = false := decide_eq_false hab
        clear hq
        go_wp2
        go_roundw
        case rel => first | exact ⟨c + 1, d, by go_num, by omega, by omega, HQ2, HB⟩ | ((repeat apply Exists.intro); exact ⟨⟨c + 1, d, by go_num, by omega, by omega, HQ2, HB⟩, rfl⟩)
        case measure => simp [intOf]; omega
    · have hq := HS.out
      rw [srtF_end _ _ _ (by omega)] at hq
      subst hq
      clear HS
      have d3 : decide (((c + 1 : Nat) : Int) < (n : Int)) = false := decide_eq_false (by omega)
      go_wp2
      go_ret
      exact ⟨rfl, HB.out⟩
end Go.Proofs.Ytnccomklpfbcpaa.P
