/- Words of my own for the program's sorting board: a box (block g) with rows, columns and cells, beside two rows of numbers (values and entries) and the box of the result (block gz). -/
import Derived.Test.YtnccomklpfbcpaaYFnExactCompileTableVCb
namespace Go.Proofs.Ytnccomklpfbcpaa.P
open Go.RowKit Go.Proofs.YtnccomklpfbcpaaW.PrintWords Go.Proofs.YtnccomklpfbcpaaW.PrintLast Go.Proofs.YtnccomklpfbcpaaW.PrintMore Go.Proofs.Ytnccomklpfbcpaa.A
set_option linter.unusedVariables false
structure Sb (w0 W : World) (g gz : Nat) (m : Int) (vv ve vc : Value) (v e : List Int) (cs : List S72) (r : Int) : Prop where
  box : W.heap[g]? = some (.cells #[.int .i64 r, .int .i64 m, vc] 39 (0, 0))
  bz : W.heap[gz]? = some (.cells #[.int .i64 0, .int .i64 0, .slice none 0 0] 39 (0, 0))
  va : Kd.R (Kd.int .i64) 3 W w0.heap.size (fun k => some k ≠ ve.ownBlock) vv v
  en : Kd.R (Kd.int .i64) 3 W w0.heap.size (fun _ => True) ve e
  ce : Kd.R k72 72 W w0.heap.size (fun _ => True) vc cs
  lo : w0.heap.size ≤ g
  ne : gz ≠ g
  be : Below w0.heap.size w0 W
section
variable {w0 W W1 : World} {g gz : Nat} {m : Int} {vv ve vc vn : Value} {v e : List Int} {cs cs1 : List S72} {r : Int}
theorem Sb.below (h : Sb w0 W g gz m vv ve vc v e cs r) (hb : Below W.heap.size W W1) : Sb w0 W1 g gz m vv ve vc v e cs r :=
  ⟨blk_below h.box hb, blk_below h.bz hb, Kd.R_below h.va hb, Kd.R_below h.en hb, Kd.R_below h.ce hb, h.lo, h.ne, below_step h.be hb⟩
theorem Sb.far (h : Sb w0 W g gz m vv ve vc v e cs r) {p j : Nat} {u : Value} (h1 : g ≠ p) (h1z : gz ≠ p) (h2 : some p ≠ vv.ownBlock) (h3 : some p ≠ ve.ownBlock) (h4 : some p ≠ vc.ownBlock) (hp : w0.heap.size ≤ p) : Sb w0 (W.setCell ⟨p, j, none⟩ u) g gz m vv ve vc v e cs r :=
  ⟨blk_far h.box (p := ⟨p, j, none⟩) h1 u, blk_far h.bz (p := ⟨p, j, none⟩) h1z u, rowFar h.va rfl h2, rowFar h.en rfl h3, rowFar h.ce rfl h4, h.lo, h.ne, below_set h.be hp⟩
theorem Sb.nev (h : Sb w0 W g gz m vv ve vc v e cs r) : some g ≠ vv.ownBlock ∧ some gz ≠ vv.ownBlock := ⟨Kd.R_ne h.va h.box (by decide), Kd.R_ne h.va h.bz (by decide)⟩
theorem Sb.nee (h : Sb w0 W g gz m vv ve vc v e cs r) : some g ≠ ve.ownBlock ∧ some gz ≠ ve.ownBlock := ⟨Kd.R_ne h.en h.box (by decide), Kd.R_ne h.en h.bz (by decide)⟩
theorem Sb.nec (h : Sb w0 W g gz m vv ve vc v e cs r) : some g ≠ vc.ownBlock ∧ some gz ≠ vc.ownBlock := ⟨Kd.R_ne h.ce h.box (by decide), Kd.R_ne h.ce h.bz (by decide)⟩
theorem Sb.nvc (h : Sb w0 W g gz m vv ve vc v e cs r) (k : Nat) (hk : vv.ownBlock = some k) : some k ≠ vc.ownBlock := by
  obtain ⟨c, hc⟩ := Kd.R_typed h.va k hk
  exact Kd.R_ne h.ce hc (by decide)
theorem Sb.nec2 (h : Sb w0 W g gz m vv ve vc v e cs r) (k : Nat) (hk : ve.ownBlock = some k) : some k ≠ vc.ownBlock := by
  obtain ⟨c, hc⟩ := Kd.R_typed h.en k hk
  exact Kd.R_ne h.ce hc (by decide)
theorem Sb.val {gv n cap : Nat} (h : Sb w0 W g gz m (.slice (some ⟨gv, 0, none⟩) n cap) ve vc v e cs r) (c : Nat) (x : Int) : Sb w0 (W.setCell ⟨gv, c, none⟩ (.int .i64 x)) g gz m (.slice (some ⟨gv, 0, none⟩) n cap) ve vc (v.set c x) e cs r := by
  have hp := Kd.R_putn h.va (c : Int) x
  rw [Int.toNat_natCast] at hp
  have hg : some g ≠ some gv := h.nev.1
  have hz : some gz ≠ some gv := h.nev.2
  exact ⟨blk_far h.box (p := ⟨gv, c, none⟩) (fun e_ => hg (by rw [e_])) _, blk_far h.bz (p := ⟨gv, c, none⟩) (fun e_ => hz (by rw [e_])) _, hp, rowFar h.en rfl (h.va.1 gv rfl), rowFar h.ce rfl (h.nvc gv rfl), h.lo, h.ne, below_set h.be (Kd.R_base h.va gv rfl)⟩
theorem Sb.ent {ge n cap : Nat} (h : Sb w0 W g gz m vv (.slice (some ⟨ge, 0, none⟩) n cap) vc v e cs r) (c : Nat) (x : Int) : Sb w0 (W.setCell ⟨ge, c, none⟩ (.int .i64 x)) g gz m vv (.slice (some ⟨ge, 0, none⟩) n cap) vc v (e.set c x) cs r := by
  have hp := Kd.R_putn h.en (c : Int) x
  rw [Int.toNat_natCast] at hp
  have hg : some g ≠ some ge := h.nee.1
  have hz : some gz ≠ some ge := h.nee.2
  exact ⟨blk_far h.box (p := ⟨ge, c, none⟩) (fun e_ => hg (by rw [e_])) _, blk_far h.bz (p := ⟨ge, c, none⟩) (fun e_ => hz (by rw [e_])) _, rowFar h.va rfl (fun e_ => (h.va.1 ge e_.symm) rfl), hp, rowFar h.ce rfl (h.nec2 ge rfl), h.lo, h.ne, below_set h.be (Kd.R_base h.en ge rfl)⟩
structure SbRow (w0 W : World) (g gz : Nat) (m : Int) (gr n cap : Nat) (vv ve vc : Value) (v e : List Int) (cs : List S72) (r : Int) (rs : List S72) : Prop where
  cb : Sb w0 W g gz m vv ve vc v e cs r
  ro : Kd.R k72 72 W w0.heap.size (fun k => some k ≠ vc.ownBlock) (.slice (some ⟨gr, 0, none⟩) n cap) rs
theorem SbRow.below {gr n cap : Nat} {rs : List S72} (h : SbRow w0 W g gz m gr n cap vv ve vc v e cs r rs) (hb : Below W.heap.size W W1) : SbRow w0 W1 g gz m gr n cap vv ve vc v e cs r rs := ⟨h.cb.below hb, Kd.R_below h.ro hb⟩
theorem SbRow.new {gr n cap : Nat} {rs : List S72} (h : Sb w0 W g gz m vv ve vc v e cs r) (hR : Kd.R k72 72 W1 w0.heap.size (fun k => some k ≠ vc.ownBlock) (.slice (some ⟨gr, 0, none⟩) n cap) rs) (hg : W.grownBy W1 none) : SbRow w0 W1 g gz m gr n cap vv ve vc v e cs r rs := ⟨h.below (below_of_grown hg), hR⟩
theorem SbRow.ne {gr n cap : Nat} {rs : List S72} (h : SbRow w0 W g gz m gr n cap vv ve vc v e cs r rs) : g ≠ gr ∧ gz ≠ gr ∧ some gr ≠ vv.ownBlock ∧ some gr ≠ ve.ownBlock ∧ some gr ≠ vc.ownBlock := by
  have h1 : some g ≠ some gr := Kd.R_ne h.ro h.cb.box (by decide)
  have h2 : some gz ≠ some gr := Kd.R_ne h.ro h.cb.bz (by decide)
  obtain ⟨c, hc⟩ := Kd.R_typed h.ro gr rfl
  exact ⟨fun e_ => h1 (by rw [e_]), fun e_ => h2 (by rw [e_]), Kd.R_ne h.cb.va hc (by decide), Kd.R_ne h.cb.en hc (by decide), h.ro.1 gr rfl⟩
theorem SbRow.put {gr n cap : Nat} {rs : List S72} (h : SbRow w0 W g gz m gr n cap vv ve vc v e cs r rs) (i : Nat) (hi : i < n) (x : S72) :
    SbRow w0 ((W.setCell ⟨gr, i * 2, none⟩ (.int .i64 x.f0)).setCell ⟨gr, i * 2 + 1, none⟩ (.int .i64 x.f1)) g gz m gr n cap vv ve vc v e cs r (rs.set i x) := by
  obtain ⟨h1, h1z, h2, h3, h4⟩ := h.ne
  have hl := Kd.R_base h.ro gr rfl
  exact ⟨(h.cb.far h1 h1z h2 h3 h4 hl).far h1 h1z h2 h3 h4 hl, (cellPut h.ro i hi x).1⟩
theorem SbRow.val {gr n cap gv k cap2 : Nat} {rs : List S72} (h : SbRow w0 W g gz m gr n cap (.slice (some ⟨gv, 0, none⟩) k cap2) ve vc v e cs r rs) (c : Nat) (x : Int) :
    SbRow w0 (W.setCell ⟨gv, c, none⟩ (.int .i64 x)) g gz m gr n cap (.slice (some ⟨gv, 0, none⟩) k cap2) ve vc (v.set c x) e cs r rs :=
  ⟨h.cb.val c x, rowFar h.ro rfl (fun e_ => h.ne.2.2.1 e_.symm)⟩
theorem SbRow.ent {gr n cap ge k cap2 : Nat} {rs : List S72} (h : SbRow w0 W g gz m gr n cap vv (.slice (some ⟨ge, 0, none⟩) k cap2) vc v e cs r rs) (c : Nat) (x : Int) :
    SbRow w0 (W.setCell ⟨ge, c, none⟩ (.int .i64 x)) g gz m gr n cap vv (.slice (some ⟨ge, 0, none⟩) k cap2) vc v (e.set c x) cs r rs :=
  ⟨h.cb.ent c x, rowFar h.ro rfl (fun e_ => h.ne.2.2.2.1 e_.symm)⟩
/-- The number of rows is set. -/
theorem SbRow.rows {gr n cap : Nat} {rs : List S72} (h : SbRow w0 W g gz m gr n cap vv ve vc v e cs r rs) (r' : Int) : SbRow w0 (W.setCell ⟨g, 0, none⟩ (.int .i64 r')) g gz m gr n cap vv ve vc v e cs r' rs :=
  ⟨⟨blk_put (cs := #[.int .i64 r, .int .i64 m, vc]) h.cb.box 0 (.int .i64 r') rfl, blk_far h.cb.bz (p := ⟨g, 0, none⟩) h.cb.ne _, rowFar h.cb.va rfl h.cb.nev.1, rowFar h.cb.en rfl h.cb.nee.1, rowFar h.cb.ce rfl h.cb.nec.1, h.cb.lo, h.cb.ne, below_set h.cb.be h.cb.lo⟩, rowFar h.ro rfl (fun e_ => h.ne.1 (Option.some.inj e_))⟩
/-- The cells grew. -/
theorem Sb.app (h : Sb w0 W g gz m vv ve vc v e cs r) (ho : Kd.R k72 72 W1 w0.heap.size (fun _ => True) vn cs1) (hb : Below w0.heap.size w0 W1) (hg : W.grownBy W1 vc.ownBlock) :
    W1.heap[g]? = some (.cells #[.int .i64 r, .int .i64 m, vc] 39 (0, 0)) ∧ Sb w0 (W1.setCell ⟨g, 2, none⟩ vn) g gz m vv ve vn v e cs1 r := by
  have hx : W1.heap[g]? = some (.cells #[.int .i64 r, .int .i64 m, vc] 39 (0, 0)) := blk_grown h.box hg h.nec.1
  have hz := blk_grown h.bz hg h.nec.2
  have hv := Kd.R_over' h.va (Kd.R_typed h.ce) (by decide) hg
  have he := Kd.R_over' h.en (Kd.R_typed h.ce) (by decide) hg
  exact ⟨hx, blk_put (cs := #[.int .i64 r, .int .i64 m, vc]) hx 2 vn rfl, blk_far hz (p := ⟨g, 2, none⟩) h.ne _, rowFar hv rfl h.nev.1, rowFar he rfl h.nee.1, rowFar ho rfl (Kd.R_ne ho hx (by decide)), h.lo, h.ne, below_set hb h.lo⟩
end
/-- How many zeros there are among bits. -/
def zerosL : List Int → Int
  | [] => 0
  | x :: l => 1 - x + zerosL l
theorem zerosL_snoc (l : List Int) (x : Int) : zerosL (l ++ [x]) = zerosL l + (1 - x) := by
  induction l with
  | nil => simp [zerosL]
  | cons y l ih => simp [zerosL, ih]; omega
theorem zerosL_bd (l : List Int) (h : ∀ x ∈ l, x = 0 ∨ x = 1) : 0 ≤ zerosL l ∧ zerosL l ≤ l.length := by
  induction l with
  | nil => simp [zerosL]
  | cons y l ih =>
    have h1 := ih (fun x hx => h x (List.mem_cons_of_mem _ hx))
    have h2 := h y (List.mem_cons_self ..)
    simp only [zerosL, List.length_cons]
    omega
end Go.Proofs.Ytnccomklpfbcpaa.P
