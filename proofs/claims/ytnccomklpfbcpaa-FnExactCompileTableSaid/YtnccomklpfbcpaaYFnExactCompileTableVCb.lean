/- Words of my own for the sorting board that the reference makes: a box (block g) with the values, the entries, the cells and the number of rows. -/
import Derived.Test.YtnccomklpfbcpaaYFnExactCompileTableVCell
import Derived.Test.YtnccomklpfbcpaaYFnExactCompileTableASrt
namespace Go.Proofs.Ytnccomklpfbcpaa.P
open Go.RowKit Go.Proofs.YtnccomklpfbcpaaW.PrintWords Go.Proofs.YtnccomklpfbcpaaW.PrintLast Go.Proofs.YtnccomklpfbcpaaW.PrintMore Go.Proofs.Ytnccomklpfbcpaa.A
set_option linter.unusedVariables false
structure Cb (w0 W : World) (g : Nat) (vv ve vc : Value) (v e : List Int) (cs : List S72) (r : Int) : Prop where
  box : W.heap[g]? = some (.cells #[vv, ve, vc, .int .i64 r] 48 (0, 0))
  va : Kd.R (Kd.int .i64) 3 W w0.heap.size (fun k => some k ≠ ve.ownBlock) vv v
  en : Kd.R (Kd.int .i64) 3 W w0.heap.size (fun _ => True) ve e
  ce : Kd.R k72 72 W w0.heap.size (fun _ => True) vc cs
  lo : w0.heap.size ≤ g
  be : Below w0.heap.size w0 W
section
variable {w0 W W1 : World} {g : Nat} {vv ve vc : Value} {v e : List Int} {cs : List S72} {r : Int}
theorem Cb.below (h : Cb w0 W g vv ve vc v e cs r) (hb : Below W.heap.size W W1) : Cb w0 W1 g vv ve vc v e cs r :=
  ⟨blk_below h.box hb, Kd.R_below h.va hb, Kd.R_below h.en hb, Kd.R_below h.ce hb, h.lo, below_step h.be hb⟩
theorem Cb.far (h : Cb w0 W g vv ve vc v e cs r) {p j : Nat} {u : Value} (h1 : g ≠ p) (h2 : some p ≠ vv.ownBlock) (h3 : some p ≠ ve.ownBlock) (h4 : some p ≠ vc.ownBlock) (hp : w0.heap.size ≤ p) : Cb w0 (W.setCell ⟨p, j, none⟩ u) g vv ve vc v e cs r :=
  ⟨blk_far h.box (p := ⟨p, j, none⟩) h1 u, rowFar h.va rfl h2, rowFar h.en rfl h3, rowFar h.ce rfl h4, h.lo, below_set h.be hp⟩
theorem Cb.lower (h : Cb w0 W g vv ve vc v e cs r) {w : World} (hb : Below w.heap.size w w0) : Cb w W g vv ve vc v e cs r :=
  ⟨h.box, Kd.R_lower h.va hb.size, Kd.R_lower h.en hb.size, Kd.R_lower h.ce hb.size, Nat.le_trans hb.size h.lo, below_step hb h.be⟩
theorem Cb.nev (h : Cb w0 W g vv ve vc v e cs r) : some g ≠ vv.ownBlock := Kd.R_ne h.va h.box (by decide)
theorem Cb.nee (h : Cb w0 W g vv ve vc v e cs r) : some g ≠ ve.ownBlock := Kd.R_ne h.en h.box (by decide)
theorem Cb.nec (h : Cb w0 W g vv ve vc v e cs r) : some g ≠ vc.ownBlock := Kd.R_ne h.ce h.box (by decide)
theorem Cb.nvc (h : Cb w0 W g vv ve vc v e cs r) (k : Nat) (hk : vv.ownBlock = some k) : some k ≠ vc.ownBlock := by
  obtain ⟨c, hc⟩ := Kd.R_typed h.va k hk
  exact Kd.R_ne h.ce hc (by decide)
theorem Cb.nec2 (h : Cb w0 W g vv ve vc v e cs r) (k : Nat) (hk : ve.ownBlock = some k) : some k ≠ vc.ownBlock := by
  obtain ⟨c, hc⟩ := Kd.R_typed h.en k hk
  exact Kd.R_ne h.ce hc (by decide)
/-- A value is set. -/
theorem Cb.val {gv n cap : Nat} (h : Cb w0 W g (.slice (some ⟨gv, 0, none⟩) n cap) ve vc v e cs r) (c : Nat) (x : Int) : Cb w0 (W.setCell ⟨gv, c, none⟩ (.int .i64 x)) g (.slice (some ⟨gv, 0, none⟩) n cap) ve vc (v.set c x) e cs r := by
  have hp := Kd.R_putn h.va (c : Int) x
  rw [Int.toNat_natCast] at hp
  have hg : some g ≠ some gv := h.nev
  exact ⟨blk_far h.box (p := ⟨gv, c, none⟩) (fun e_ => hg (by rw [e_])) _, hp, rowFar h.en rfl (h.va.1 gv rfl), rowFar h.ce rfl (h.nvc gv rfl), h.lo, below_set h.be (Kd.R_base h.va gv rfl)⟩
/-- An entry is set. -/
theorem Cb.ent {ge n cap : Nat} (h : Cb w0 W g vv (.slice (some ⟨ge, 0, none⟩) n cap) vc v e cs r) (c : Nat) (x : Int) : Cb w0 (W.setCell ⟨ge, c, none⟩ (.int .i64 x)) g vv (.slice (some ⟨ge, 0, none⟩) n cap) vc v (e.set c x) cs r := by
  have hp := Kd.R_putn h.en (c : Int) x
  rw [Int.toNat_natCast] at hp
  have hg : some g ≠ some ge := h.nee
  exact ⟨blk_far h.box (p := ⟨ge, c, none⟩) (fun e_ => hg (by rw [e_])) _, rowFar h.va rfl (fun e_ => (h.va.1 ge e_.symm) rfl), hp, rowFar h.ce rfl (h.nec2 ge rfl), h.lo, below_set h.be (Kd.R_base h.en ge rfl)⟩
/-- A row that is just being made, beside the box. -/
structure CbRow (w0 W : World) (g gr n cap : Nat) (vv ve vc : Value) (v e : List Int) (cs : List S72) (r : Int) (rs : List S72) : Prop where
  cb : Cb w0 W g vv ve vc v e cs r
  ro : Kd.R k72 72 W w0.heap.size (fun k => some k ≠ vc.ownBlock) (.slice (some ⟨gr, 0, none⟩) n cap) rs
theorem CbRow.below {gr n cap : Nat} {rs : List S72} (h : CbRow w0 W g gr n cap vv ve vc v e cs r rs) (hb : Below W.heap.size W W1) : CbRow w0 W1 g gr n cap vv ve vc v e cs r rs := ⟨h.cb.below hb, Kd.R_below h.ro hb⟩
theorem CbRow.new {gr n cap : Nat} {rs : List S72} (h : Cb w0 W g vv ve vc v e cs r) (hR : Kd.R k72 72 W1 w0.heap.size (fun k => some k ≠ vc.ownBlock) (.slice (some ⟨gr, 0, none⟩) n cap) rs) (hg : W.grownBy W1 none) : CbRow w0 W1 g gr n cap vv ve vc v e cs r rs := ⟨h.below (below_of_grown hg), hR⟩
theorem CbRow.ne {gr n cap : Nat} {rs : List S72} (h : CbRow w0 W g gr n cap vv ve vc v e cs r rs) : g ≠ gr ∧ some gr ≠ vv.ownBlock ∧ some gr ≠ ve.ownBlock ∧ some gr ≠ vc.ownBlock := by
  have h1 : some g ≠ some gr := Kd.R_ne h.ro h.cb.box (by decide)
  obtain ⟨c, hc⟩ := Kd.R_typed h.ro gr rfl
  exact ⟨fun e_ => h1 (by rw [e_]), Kd.R_ne h.cb.va hc (by decide), Kd.R_ne h.cb.en hc (by decide), h.ro.1 gr rfl⟩
theorem CbRow.put {gr n cap : Nat} {rs : List S72} (h : CbRow w0 W g gr n cap vv ve vc v e cs r rs) (i : Nat) (hi : i < n) (x : S72) :
    CbRow w0 ((W.setCell ⟨gr, i * 2, none⟩ (.int .i64 x.f0)).setCell ⟨gr, i * 2 + 1, none⟩ (.int .i64 x.f1)) g gr n cap vv ve vc v e cs r (rs.set i x) := by
  obtain ⟨h1, h2, h3, h4⟩ := h.ne
  have hl := Kd.R_base h.ro gr rfl
  exact ⟨(h.cb.far h1 h2 h3 h4 hl).far h1 h2 h3 h4 hl, (cellPut h.ro i hi x).1⟩
theorem CbRow.val {gr n cap gv m cap2 : Nat} {rs : List S72} (h : CbRow w0 W g gr n cap (.slice (some ⟨gv, 0, none⟩) m cap2) ve vc v e cs r rs) (c : Nat) (x : Int) :
    CbRow w0 (W.setCell ⟨gv, c, none⟩ (.int .i64 x)) g gr n cap (.slice (some ⟨gv, 0, none⟩) m cap2) ve vc (v.set c x) e cs r rs :=
  ⟨h.cb.val c x, rowFar h.ro rfl (fun e_ => h.ne.2.1 e_.symm)⟩
theorem CbRow.ent {gr n cap ge m cap2 : Nat} {rs : List S72} (h : CbRow w0 W g gr n cap vv (.slice (some ⟨ge, 0, none⟩) m cap2) vc v e cs r rs) (c : Nat) (x : Int) :
    CbRow w0 (W.setCell ⟨ge, c, none⟩ (.int .i64 x)) g gr n cap vv (.slice (some ⟨ge, 0, none⟩) m cap2) vc v (e.set c x) cs r rs :=
  ⟨h.cb.ent c x, rowFar h.ro rfl (fun e_ => h.ne.2.2.1 e_.symm)⟩
end
section
variable {w0 W W1 : World} {g : Nat} {vv ve vc vn : Value} {v e : List Int} {cs cs1 : List S72} {r : Int}
/-- The cells grew. -/
theorem Cb.app (h : Cb w0 W g vv ve vc v e cs r) (ho : Kd.R k72 72 W1 w0.heap.size (fun _ => True) vn cs1) (hb : Below w0.heap.size w0 W1) (hg : W.grownBy W1 vc.ownBlock) :
    W1.heap[g]? = some (.cells #[vv, ve, vc, .int .i64 r] 48 (0, 0)) ∧ Cb w0 (W1.setCell ⟨g, 2, none⟩ vn) g vv ve vn v e cs1 r := by
  have hx : W1.heap[g]? = some (.cells #[vv, ve, vc, .int .i64 r] 48 (0, 0)) := blk_grown h.box hg h.nec
  have hv := Kd.R_over' h.va (Kd.R_typed h.ce) (by decide) hg
  have he := Kd.R_over' h.en (Kd.R_typed h.ce) (by decide) hg
  exact ⟨hx, blk_put (cs := #[vv, ve, vc, .int .i64 r]) hx 2 vn rfl, rowFar hv rfl h.nev, rowFar he rfl h.nee, rowFar ho rfl (Kd.R_ne ho hx (by decide)), h.lo, below_set hb h.lo⟩
/-- The number of rows is set. -/
theorem Cb.rows (h : Cb w0 W g vv ve vc v e cs r) (r' : Int) : Cb w0 (W.setCell ⟨g, 3, none⟩ (.int .i64 r')) g vv ve vc v e cs r' :=
  ⟨blk_put (cs := #[vv, ve, vc, .int .i64 r]) h.box 3 (.int .i64 r') rfl, rowFar h.va rfl h.nev, rowFar h.en rfl h.nee, rowFar h.ce rfl h.nec, h.lo, below_set h.be h.lo⟩
/-- An entry was appended. -/
theorem Cb.appE (h : Cb w0 W g vv ve vc v e cs r) {e1 : List Int} (ho : Kd.R (Kd.int .i64) 3 W1 w0.heap.size (fun k => some k ≠ vv.ownBlock) vn e1) (hb : Below w0.heap.size w0 W1) (hg : W.grownBy W1 ve.ownBlock) :
    W1.heap[g]? = some (.cells #[vv, ve, vc, .int .i64 r] 48 (0, 0)) ∧ Cb w0 (W1.setCell ⟨g, 1, none⟩ vn) g vv vn vc v e1 cs r := by
  have hx : W1.heap[g]? = some (.cells #[vv, ve, vc, .int .i64 r] 48 (0, 0)) := blk_grown h.box hg h.nee
  have hv : Kd.R (Kd.int .i64) 3 W1 w0.heap.size (fun k => some k ≠ ve.ownBlock) vv v := Kd.R_grown h.va hg (fun k hk => hk)
  have hc := Kd.R_over' h.ce (Kd.R_typed h.en) (by decide) hg
  have hv2 : Kd.R (Kd.int .i64) 3 W1 w0.heap.size (fun k => some k ≠ vn.ownBlock) vv v := Kd.R_reok rfl hv (fun k hk e_ => ho.1 k e_.symm hk.symm)
  exact ⟨hx, blk_put (cs := #[vv, ve, vc, .int .i64 r]) hx 1 vn rfl, rowFar hv2 rfl h.nev, Kd.R_mono (rowFar ho rfl (Kd.R_ne ho hx (by decide))) (fun _ _ => trivial), rowFar hc rfl h.nec, h.lo, below_set hb h.lo⟩
end
/-- No pair is left in a round. -/
theorem passL_end (d c : Nat) (v e : List Int) (rs : List S72) (h : ¬ c + 1 < v.length) : passL d c v e rs = (v, e, rs) := by
  cases d with
  | zero => rfl
  | succ d => rw [passL, if_neg h]
end Go.Proofs.Ytnccomklpfbcpaa.P
