/- The walk of impl.numbersText (printed by gen_au.py). -/
import Derived.Test.YtkfedkckakegjaaDoorAAut
import Derived.Test.YtkfedkckakegjaaDoorOwnW
namespace Go.Proofs.YtkfedkckakegjaaDoor.P
open Go.RowKit YtkfedkckakegjaaDoorW.PrintWords YtkfedkckakegjaaDoorW.PrintLast YtkfedkckakegjaaDoorW.PrintMore Own A
set_option linter.unusedVariables false
set_option linter.unusedSimpArgs false
/-! ### impl_numbersText: function 25 -/
theorem infoS : (Tryd.prog.info? 9).map (fun i => (i.zero, i.size, i.bytes)) = some (some (.string ⟨#[]⟩), Kd.string.sz, 16) := by kernel_rfl
def NumFit (l : List Int) : Prop := (0 < l.length ∧ l.length ≤ 20) ∧ ∀ x ∈ l, 0 ≤ x ∧ x < 100
instance (l : List Int) : Decidable (NumFit l) := by unfold NumFit; infer_instance
def impl_numbersText.f (k : Nat) (l0 : List Int) : Option ByteArray := if NumFit l0 then some (joinB l0) else none
theorem impl_numbersText.mono : ∀ a0 k, LeO (impl_numbersText.f k a0) (impl_numbersText.f (k + 1) a0) := fun _ _ _ h => h
set_option maxHeartbeats 8000000 in
set_option maxRecDepth 100000 in
theorem impl_numbersText.calls (k : Nat) (A0 : Option Addr) (c0 : Nat) (l0 : List Int) (r : ByteArray) (w : World) (hr0 : Kd.C (Kd.int .i64) w A0 l0.length l0) (hc0 : l0.length ≤ c0) (h : impl_numbersText.f k l0 = some r) :
  Calls Tryd.prog 25 #[.slice A0 l0.length c0] w fun e w' => e = .returned (.string r) ∧ Below w.heap.size w w' := by
 have hu48 := Tryd.underlying48
 unfold impl_numbersText.f at h
 by_cases hk : NumFit l0
 case neg => rw [if_neg hk] at h; simp at h
 rw [if_pos hk] at h
 replace h := Option.some.inj h
 subst h
 have HC := Aside0.mk hr0
 have HK := Aside0.mk hk
 have HB0 := Aside0.mk (Below.refl w.heap.size w)
 clear hr0 hc0 hk
 go_enter Tryd.func25, Tryd.ntmps25
 go_wp2_with (first
  | ((with_reducible refine gate_dst (N := 6) rfl ?_); refine Kd.R_lit Kd.string (w0 := w) w.heap.size 9 ?hg (N := 6) ?hd (xs := ([] : List ByteArray)) (inner := []) (ok := fun _ => True) (okp := fun _ => False) ?hr (Reps.none _ _) (fun _ hk => hk.elim) trivial HB0.out HB0.out.size (by simp) ?_; (case hd => rfl); (case hg => rfl); (case hr => first | (go_simp; done) | (go_simp; rfl)); intro v5 w5 hR hb hg_ _; have HV := Aside0.mk hR; have HB := Aside0.mk hb; clear hR hb hg_ HB0)
  | fail)
 go_loopw [3, 5, 9] (fun v3 v5 v9 wr => ∃ (i : Nat), v9 = .int .i64 i ∧ i ≤ l0.length ∧ Aside0 (Kd.R Kd.string 9 wr w.heap.size (fun _ => True) v3 ((l0.take i).map itB)) ∧ Aside0 (Below w.heap.size w wr)) (fun _ _ i _ => l0.length - (intOf i).toNat)
 case atStart => exact ⟨0, rfl, Nat.zero_le _, ⟨by rw [List.take_zero]; exact HV.out⟩, HB⟩
 case round =>
  clear HV HB
  obtain ⟨i, rfl, hi, HV, HB⟩ := hrel
  obtain ⟨Ar, cr, er⟩ := Kd.R_slice HV.out
  subst er
  by_cases hil : i < l0.length
  ·have hK := HK.out
   obtain ⟨ad, ea, g0⟩ := Kd.at_int (Kd.C_below HC.out HB.out) (i : Int) (by omega) (by omega)
   subst ea
   rw [Int.toNat_natCast] at g0
   obtain ⟨x, hx⟩ : ∃ x, x = rd l0 (i : Int) := ⟨_, rfl⟩
   rw [← hx] at g0
   have hxi : l0[i]? = some x := by rw [hx]; unfold rd; rw [Int.toNat_natCast, List.getD_eq_getElem?_getD, List.getElem?_eq_getElem hil]; rfl
   have hxb := hK.2 x (List.mem_of_getElem? hxi)
   have hln := hK.1.2
   have HT : Aside0 ((l0.take (i + 1)).map itB = (l0.take i).map itB ++ [itB x]) := ⟨by rw [List.take_add_one, hxi]; simp⟩
   have hlt : ((l0.take i).map itB).length ≤ 20 := by rw [List.length_map, List.length_take]; omega
   have hd : decide ((i : Int) < (l0.length : Int)) = true := decide_eq_true (by omega)
   have HX := Aside0.mk hxb
   obtain ⟨ws, hws⟩ : ∃ ws, ws = (l0.take i).map itB := ⟨_, rfl⟩
   rw [← hws] at HT HV hlt
   rw [← hws]
   clear hx hxi hK hxb hws
   go_wp2_with (first
    | (go_at_call 45; (with_reducible refine (Itoa_it x HX.out.1 HX.out.2 _).mono ?_); rintro e w4 ⟨rfl, rfl⟩)
    | ((with_reducible refine gate_builtin (b := .append) (xs := #[.tmp 13, .tmp 16]) rfl ?_); at_builtin; refine Kd.R_append Kd.string (w0 := w) w.heap.size rfl (.tmp 13) (.tmp 16) 48 9 (.string ⟨#[]⟩) 16 rfl Tryd.underlying48 infoS rfl (by decide) (by decide) (.slice Ar ws.length cr) ws (itB x) [.string (itB x)] (fun _ => True) (fun _ => False) rfl rfl ?aP (fun _ hk => hk.elim) (fun _ _ => trivial) ?aO ?aB ?aS ?aL ?_; (case aP => exact rfl); (case aO => exact HV.out); (case aB => exact HB.out); (case aS => exact HB.out.size); (case aL => exact Nat.le_trans (Nat.mul_le_mul_right 16 (Nat.succ_le_succ hlt)) (by decide)); intro v9 w9 hS hb hg_ _; have HV9 := Aside0.mk hS; have HB9 := Aside0.mk hb; clear hS hb hg_)
    | fail)
   go_roundw
   case rel => first | exact ⟨i + 1, by go_num, by omega, ⟨by rw [HT.out]; exact HV9.out⟩, HB9⟩ | ((repeat apply Exists.intro); exact ⟨⟨i + 1, by go_num, by omega, ⟨by rw [HT.out]; exact HV9.out⟩, HB9⟩, rfl⟩)
   case measure => simp [intOf]; omega
  ·obtain rfl : i = l0.length := by omega
   have hK := HK.out
   rw [List.take_length] at HV
   have hd : decide ((l0.length : Int) < (l0.length : Int)) = false := decide_eq_false (by omega)
   obtain ⟨g, cap, ev, _, hgl, _⟩ := Kd.R_form HV.out (by rw [List.length_map]; exact hK.1.1)
   rw [List.take_length]
   cases ev
   have hrd := Kd.R_reads' HV.out
   have HCE : Aside0 (∀ (j : Nat) x, (l0.map itB)[j]? = some x → wr.cell? ⟨g, j, none⟩ = some (.string x)) := ⟨fun j x hj => by
    have hjl : j < (l0.map itB).length := by rcases Nat.lt_or_ge j (l0.map itB).length with h1_ | h1_; exact h1_; rw [List.getElem?_eq_none h1_] at hj; cases hj
    obtain ⟨ad, ea, g0⟩ := Kd.at_string hrd.2.2 (j : Int) (by omega) (by omega)
    cases ea
    rw [Int.toNat_natCast] at g0
    have e1 : rdOf ByteArray.empty (l0.map itB) (j : Int) = x := by unfold rdOf; rw [Int.toNat_natCast, List.getD_eq_getElem?_getD, hj]; rfl
    rw [e1] at g0
    have e2 : (⟨g, 0, none⟩ : Addr).add j = ⟨g, j, none⟩ := by simp [Addr.add]; omega
    rw [e2] at g0
    exact g0⟩
   have HGL := Aside0.mk hgl
   have HRD := Aside0.mk hrd
   have HJ := Aside0.mk (Nat.le_trans (join_small l0 hK.1.1 hK.2) (show 3 * l0.length ≤ 140737488355328 by have := hK.1.2; omega))
   have h21 := hrd.2.1
   rw [List.length_map] at h21
   have HCP := Aside0.mk h21
   have HL : Aside0 (l0.length ≤ 100) := ⟨by have := hK.1.2; omega⟩
   clear hrd hgl hK h21
   go_wp2_with (first
    | (go_at_call 46; (with_reducible refine (Join_it g _ l0 _ HCE.out HGL.out HL.out HCP.out HJ.out).mono ?_); rintro e w5 ⟨rfl, hb⟩; have HB5 := Aside0.mk (below_step HB.out hb); clear hb)
    | fail)
   go_ret
   exact ⟨rfl, HB5.out⟩
end Go.Proofs.YtkfedkckakegjaaDoor.P
