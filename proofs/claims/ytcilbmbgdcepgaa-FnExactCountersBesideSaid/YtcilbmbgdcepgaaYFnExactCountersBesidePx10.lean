/- The walk of spec.BesideBoards for boards that fit (printed by gen_bes.py). -/
import Derived.Test.YtcilbmbgdcepgaaZFnExactCountersBeside0
import Derived.Test.YtcilbmbgdcepgaaYFnExactCountersBesideABes
namespace Go.Proofs.Ytcilbmbgdcepgaa.P
open Go.RowKit Go.Proofs.YtcilbmbgdcepgaaW.PrintWords Go.Proofs.YtcilbmbgdcepgaaW.PrintLast Go.Proofs.YtcilbmbgdcepgaaW.PrintMore Go.Proofs.Ytcilbmbgdcepgaa.Own Go.Proofs.Ytcilbmbgdcepgaa.A
set_option linter.unusedVariables false
set_option linter.unusedSimpArgs false
def BesOk (R ca cb : Int) (a b : List S71) : Prop := BoOk R ca a ∧ BoOk R cb b ∧ ca + cb ≤ 9
instance (R ca cb : Int) (a b : List S71) : Decidable (BesOk R ca cb a b) := by unfold BesOk BoOk CellOk; infer_instance
def besQ (R ca cb : Int) (a b : List S71) : List S71 := besL ca.toNat cb.toNat a b R.toNat 0 []
/-- The four boxes. -/
structure BbB (w0 W : World) (g R ca cb : Nat) (sa sb va : Value) : Prop where
  bA : W.heap[w0.heap.size]? = some (.cells #[.int .i64 (R : Int), .int .i64 (ca : Int), sa] 24 (0, 0))
  bB : W.heap[w0.heap.size + 1]? = some (.cells #[.int .i64 (R : Int), .int .i64 (cb : Int), sb] 24 (0, 0))
  bR : W.heap[w0.heap.size + 1 + 1]? = some (.cells #[.int .i64 0, .int .i64 0, .slice none 0 0] 24 (0, 0))
  bT : W.heap[g]? = some (.cells #[.int .i64 (R : Int), .int .i64 ((ca : Int) + (cb : Int)), va] 24 (0, 0))
  lo : w0.heap.size + 1 + 1 < g
  be : Below w0.heap.size w0 W
section
variable {w0 W W1 : World} {g R ca cb : Nat} {sa sb va : Value}
theorem BbB.below (h : BbB w0 W g R ca cb sa sb va) (hb : Below W.heap.size W W1) : BbB w0 W1 g R ca cb sa sb va := ⟨blk_below h.bA hb, blk_below h.bB hb, blk_below h.bR hb, blk_below h.bT hb, h.lo, below_step h.be hb⟩
theorem BbB.grown (h : BbB w0 W g R ca cb sa sb va) {vo : Value} {base : Nat} {ok : Nat → Prop} {xs : List S71} (ho : Kd.R k71 71 W base ok vo xs) (hg : W.grownBy W1 vo.ownBlock) (hb : Below w0.heap.size w0 W1) : BbB w0 W1 g R ca cb sa sb va :=
  ⟨blk_grown h.bA hg (Kd.R_ne ho h.bA (by decide)), blk_grown h.bB hg (Kd.R_ne ho h.bB (by decide)), blk_grown h.bR hg (Kd.R_ne ho h.bR (by decide)), blk_grown h.bT hg (Kd.R_ne ho h.bT (by decide)), h.lo, hb⟩
theorem BbB.put (h : BbB w0 W g R ca cb sa sb va) (vn : Value) : BbB w0 (W.setCell ⟨g, 2, none⟩ vn) g R ca cb sa sb vn := by
  have hl := h.lo
  exact ⟨blk_far h.bA (p := ⟨g, 2, none⟩) (by simp; omega) vn, blk_far h.bB (p := ⟨g, 2, none⟩) (by simp; omega) vn, blk_far h.bR (p := ⟨g, 2, none⟩) (by simp; omega) vn, blk_put (cs := #[.int .i64 (R : Int), .int .i64 ((ca : Int) + (cb : Int)), va]) h.bT 2 vn rfl, hl, below_set h.be (by omega)⟩
end
/-! ### spec_BesideBoards: function 46 -/
def spec_BesideBoards.f (k : Nat) (a0_0 : Int) (a0_1 : Int) (l0_2 : List (S71)) (a1_0 : Int) (a1_1 : Int) (l1_2 : List (S71)) : Option (Int × Int × (List (S71)) × Bool) := if a0_0 = a1_0 ∧ BesOk a0_0 a0_1 a1_1 l0_2 l1_2 then some (a0_0, a0_1 + a1_1, besQ a0_0 a0_1 a1_1 l0_2 l1_2, true) else none
theorem spec_BesideBoards.mono : ∀ a0 a1 a2 a3 a4 a5 k, LeO (spec_BesideBoards.f k a0 a1 a2 a3 a4 a5) (spec_BesideBoards.f (k + 1) a0 a1 a2 a3 a4 a5) := fun _ _ _ _ _ _ _ _ h => h
theorem bes_in {R cc : Nat} {l : List S71} (h : BoOk R cc l) (i : Nat) (hi : i < R) : (i + 1) * cc ≤ l.length := by
  have h1 := h.2.2.1
  have h2 : (i + 1) * cc ≤ R * cc := Nat.mul_le_mul_right _ hi
  have h3 : ((R : Int) * (cc : Int)) = ((R * cc : Nat) : Int) := (Int.natCast_mul _ _).symm
  omega
theorem bes_ok {R ca cb : Nat} {a b : List S71} (h : BesOk R ca cb a b) : BoOk R ((ca + cb : Nat) : Int) (besQ R ca cb a b) := by
  obtain ⟨ha, hb, h9⟩ := h
  have h1 := ha.2.2.1
  have h2 := hb.2.2.1
  have e1 : ((R : Int) * (ca : Int)) = ((R * ca : Nat) : Int) := (Int.natCast_mul _ _).symm
  have e2 : ((R : Int) * (cb : Int)) = ((R * cb : Nat) : Int) := (Int.natCast_mul _ _).symm
  have e3 : ((R : Int) * ((ca + cb : Nat) : Int)) = ((R * (ca + cb) : Nat) : Int) := (Int.natCast_mul _ _).symm
  have hl := besL_len ca cb a b R 0 [] (by rw [Nat.zero_add]; omega) (by rw [Nat.zero_add]; omega)
  refine ⟨ha.1, ⟨by have := ha.2.1.1; omega, by omega⟩, ?_, ?_⟩
  · unfold besQ
    simp only [Int.toNat_natCast]
    rw [hl, e3, List.length_nil, Nat.zero_add]
  · unfold besQ
    simp only [Int.toNat_natCast]
    exact besL_all (fun x => CellOk x.f0 x.f1) ca cb a b ha.2.2.2 hb.2.2.2 R 0 [] (fun x hx => by cases hx)
set_option maxHeartbeats 8000000 in
set_option maxRecDepth 100000 in
theorem BesideBoards_own (R ca cb : Nat) (A1 : Option Addr) (c1 : Nat) (l1 : List S71) (A2 : Option Addr) (c2 : Nat) (l2 : List S71) (w : World) (h1 : Kd.C k71 w A1 l1.length l1) (hc1 : l1.length ≤ c1) (h2 : Kd.C k71 w A2 l2.length l2) (hc2 : l2.length ≤ c2) (hk : BesOk R ca cb l1 l2) :
    Calls Try.prog 46 #[.agg #[.int .i64 (R : Int), .int .i64 (ca : Int), (.slice A1 l1.length c1)], .agg #[.int .i64 (R : Int), .int .i64 (cb : Int), (.slice A2 l2.length c2)]] w fun e w' => ∃ v2_ : Value, e = .returned (.tuple #[.agg #[.int .i64 (R : Int), .int .i64 ((ca : Int) + (cb : Int)), v2_], .bool true]) ∧ Kd.R k71 71 w' w.heap.size (fun _ => True) v2_ (besQ R ca cb l1 l2) ∧ Below w.heap.size w w' := by
  have hu24 := Try.underlying24
  have H1 := Aside0.mk h1
  have H2 := Aside0.mk h2
  have C1 := Aside0.mk hc1
  have C2 := Aside0.mk hc2
  have HR : Aside0 (BoOk R ((ca + cb : Nat) : Int) (besQ R ca cb l1 l2)) := ⟨bes_ok hk⟩
  obtain ⟨ha, hb, h9⟩ := hk
  have r0 := ha.1.1
  have r10 := ha.1.2
  have ca9 : ca ≤ 9 := by have := ha.2.1.2; omega
  have cb9 : cb ≤ 9 := by have := hb.2.1.2; omega
  have hl1 := ha.len
  have hl2 := hb.len
  obtain ⟨K1, hK1⟩ := boGood R ca l1 (by simp only [maxLen]; omega)
  obtain ⟨K2, hK2⟩ := boGood R cb l2 (by simp only [maxLen]; omega)
  obtain ⟨K3, hK3⟩ := boGood R ((ca + cb : Nat) : Int) (besQ R ca cb l1 l2) (by have := HR.out.len; simp only [maxLen]; omega)
  have G1 : Aside0 (spec_boGood.f K1 R ca l1 = some true) := ⟨(hK1 K1 (Nat.le_refl _)).trans (by rw [decide_eq_true ha])⟩
  have G2 : Aside0 (spec_boGood.f K2 R cb l2 = some true) := ⟨(hK2 K2 (Nat.le_refl _)).trans (by rw [decide_eq_true hb])⟩
  have g3 : spec_boGood.f K3 R ((ca + cb : Nat) : Int) (besQ R ca cb l1 l2) = some true := (hK3 K3 (Nat.le_refl _)).trans (by rw [decide_eq_true HR.out])
  have G3 : Aside0 (spec_boIf.f K3 R ((ca : Int) + (cb : Int)) (besQ R ca cb l1 l2) = some ((R : Int), (ca : Int) + (cb : Int), besQ R ca cb l1 l2, true)) := ⟨by rw [Int.natCast_add] at g3; unfold spec_boIf.f; rw [g3]; rfl⟩
  clear g3
  have I1 : Aside0 (∀ i, i < R → (i + 1) * ca ≤ l1.length) := ⟨fun i hi => bes_in ha i hi⟩
  have I2 : Aside0 (∀ i, i < R → (i + 1) * cb ≤ l2.length) := ⟨fun i hi => bes_in hb i hi⟩
  have z1 : (w.alloc (.cells #[.int .i64 (R : Int), .int .i64 (ca : Int), (.slice A1 l1.length c1)] 24)).heap.size = w.heap.size + 1 := Array.size_push _
  have z2 : ((w.alloc (.cells #[.int .i64 (R : Int), .int .i64 (ca : Int), (.slice A1 l1.length c1)] 24)).alloc (.cells #[.int .i64 (R : Int), .int .i64 (cb : Int), (.slice A2 l2.length c2)] 24)).heap.size = w.heap.size + 1 + 1 := (Array.size_push _).trans (by rw [z1])
  have BA := Aside0.mk (blk_alloc (blk_alloc (blk_new w (.cells #[.int .i64 (R : Int), .int .i64 (ca : Int), (.slice A1 l1.length c1)] 24)) (.cells #[.int .i64 (R : Int), .int .i64 (cb : Int), (.slice A2 l2.length c2)] 24)) (.cells #[.int .i64 0, .int .i64 0, .slice none 0 0] 24))
  have BB := Aside0.mk (blk_alloc (blk_new (w.alloc (.cells #[.int .i64 (R : Int), .int .i64 (ca : Int), (.slice A1 l1.length c1)] 24)) (.cells #[.int .i64 (R : Int), .int .i64 (cb : Int), (.slice A2 l2.length c2)] 24)) (.cells #[.int .i64 0, .int .i64 0, .slice none 0 0] 24))
  have BZ := Aside0.mk (blk_new ((w.alloc (.cells #[.int .i64 (R : Int), .int .i64 (ca : Int), (.slice A1 l1.length c1)] 24)).alloc (.cells #[.int .i64 (R : Int), .int .i64 (cb : Int), (.slice A2 l2.length c2)] 24)) (.cells #[.int .i64 0, .int .i64 0, .slice none 0 0] 24))
  rw [z1] at BB
  rw [z2] at BZ
  have HB0 := Aside0.mk (below_alloc (below_alloc (below_alloc (Below.refl w.heap.size w) (.cells #[.int .i64 (R : Int), .int .i64 (ca : Int), (.slice A1 l1.length c1)] 24)) (.cells #[.int .i64 (R : Int), .int .i64 (cb : Int), (.slice A2 l2.length c2)] 24)) (.cells #[.int .i64 0, .int .i64 0, .slice none 0 0] 24))
  obtain ⟨Q, hQ⟩ : ∃ Q, Q = besQ R ca cb l1 l2 := ⟨_, rfl⟩
  rw [← hQ] at G3 ⊢
  have HQ : Aside0 (besL ca cb l1 l2 R 0 [] = Q) := ⟨by rw [hQ]; unfold besQ; simp only [Int.toNat_natCast]⟩
  have ew : IntKind.i64.wrap ((ca : Int) + (cb : Int)) = (ca : Int) + (cb : Int) := IntWalk.i64_in _ (by omega)
  have hR10 : R ≤ 10 := by omega
  clear h1 h2 hc1 hc2 ha hb h9 r0 r10 hK1 hK2 hK3 z1 z2 hQ HR
  go_enter Try.func46, Try.ntmps46
  go_wp2_with (first
    | (go_at_call 66; (with_reducible refine (spec_boGood.calls K1 _ _ _ _ l1 true _ (Kd.C_below H1.out HB0.out) C1.out G1.out).mono ?_); rintro e w4 ⟨rfl, hb⟩; have HB4 := Aside0.mk (below_step HB0.out hb); have BA4 := Aside0.mk (blk_below BA.out hb); have BB4 := Aside0.mk (blk_below BB.out hb); have BZ4 := Aside0.mk (blk_below BZ.out hb); clear hb HB0 BA BB BZ G1; have b0 : w4.cell? ⟨w.heap.size + 1, 0, none⟩ = some (.int .i64 (R : Int)) := (blk_cell BB4.out 0).trans rfl; have b1 : w4.cell? ⟨w.heap.size + 1, 1, none⟩ = some (.int .i64 (cb : Int)) := (blk_cell BB4.out 1).trans rfl; have b2 : w4.cell? ⟨w.heap.size + 1, 2, none⟩ = some (.slice A2 l2.length c2) := (blk_cell BB4.out 2).trans rfl)
    | (go_at_call 66; (with_reducible refine (spec_boGood.calls K2 _ _ _ _ l2 true _ (Kd.C_below H2.out HB4.out) C2.out G2.out).mono ?_); rintro e w5 ⟨rfl, hb⟩; have HB5 := Aside0.mk (below_step HB4.out hb); have BA5 := Aside0.mk (blk_below BA4.out hb); have BB5 := Aside0.mk (blk_below BB4.out hb); have BZ5 := Aside0.mk (blk_below BZ4.out hb); clear hb HB4 BA4 BB4 BZ4 G2 b0 b1 b2; have a0 : w5.cell? ⟨w.heap.size, 0, none⟩ = some (.int .i64 (R : Int)) := (blk_cell BA5.out 0).trans rfl; have a1 : w5.cell? ⟨w.heap.size, 1, none⟩ = some (.int .i64 (ca : Int)) := (blk_cell BA5.out 1).trans rfl; have b0 : w5.cell? ⟨w.heap.size + 1, 0, none⟩ = some (.int .i64 (R : Int)) := (blk_cell BB5.out 0).trans rfl; have b1 : w5.cell? ⟨w.heap.size + 1, 1, none⟩ = some (.int .i64 (cb : Int)) := (blk_cell BB5.out 1).trans rfl)
    | fail)
  have HS0 : Aside0 (BbB w (w5.alloc (.cells #[.int .i64 (R : Int), .int .i64 ((ca : Int) + (cb : Int)), .slice none 0 0] 24)) w5.heap.size R ca cb (.slice A1 l1.length c1) (.slice A2 l2.length c2) (.slice none 0 0)) := ⟨⟨blk_alloc BA5.out _, blk_alloc BB5.out _, blk_alloc BZ5.out _, blk_new w5 _, blk_lt BZ5.out, below_alloc HB5.out _⟩⟩
  clear HB5 BA5 BB5 BZ5 a0 a1 b0 b1 ew
  obtain ⟨g, hg⟩ : ∃ g, g = w5.heap.size := ⟨_, rfl⟩
  rw [← hg] at HS0 ⊢
  generalize w5.alloc (.cells #[.int .i64 (R : Int), .int .i64 ((ca : Int) + (cb : Int)), .slice none 0 0] 24) = w6 at HS0 ⊢
  clear hg
  go_loopw [7] (fun v7 wr => ∃ (r : Nat) (va : Value) (acc : List S71), v7 = .int .i64 r ∧ r ≤ R ∧ acc.length ≤ r * 200 ∧ Aside0 (besL ca cb l1 l2 (R - r) r acc = Q) ∧ Aside0 (BbB w wr g R ca cb (.slice A1 l1.length c1) (.slice A2 l2.length c2) va) ∧ Aside0 (Kd.R k71 71 wr w.heap.size (fun _ => True) va acc)) (fun i _ => R - (intOf i).toNat)
  case atStart => exact ⟨0, .slice none 0 0, [], rfl, Nat.zero_le _, by simp, HQ, HS0, ⟨Kd.R_nil _ _ _ _ _⟩⟩
  case round =>
    clear HS0 HQ
    obtain ⟨r, va, acc, rfl, hr, hacc, HQ, HS, HR⟩ := hrel
    obtain ⟨Ao, co, eo⟩ := Kd.R_slice HR.out
    subst eo
    have p0 : wr.cell? ⟨w.heap.size, 0, none⟩ = some (.int .i64 (R : Int)) := (blk_cell HS.out.bA 0).trans rfl
    by_cases hlt : r < R
    · have hq := HQ.out
      obtain ⟨d, hd⟩ : ∃ d, R - r = d + 1 := ⟨R - r - 1, by omega⟩
      have hd2 : R - (r + 1) = d := by omega
      rw [hd] at hq
      unfold besL at hq
      have i1 := I1.out r hlt
      have i2 := I2.out r hlt
      obtain ⟨xs1, hx1⟩ : ∃ x_, x_ = (l1.drop (r * ca)).take ca := ⟨_, rfl⟩
      obtain ⟨xs2, hx2⟩ : ∃ x_, x_ = (l2.drop (r * cb)).take cb := ⟨_, rfl⟩
      have n1 : xs1.length ≤ 9 := by rw [hx1]; exact Nat.le_trans (List.length_take_le _ _) ca9
      have n2 : xs2.length ≤ 9 := by rw [hx2]; exact Nat.le_trans (List.length_take_le _ _) cb9
      rw [← hx1, ← hx2, ← hd2] at hq
      have HQ2 := Aside0.mk hq
      have J1 := Aside0.mk i1
      have J2 := Aside0.mk i2
      have X1 := Aside0.mk hx1
      have X2 := Aside0.mk hx2
      have hr100 : r ≤ 100 := by omega
      have hac : acc.length ≤ 2000 := by omega
      clear hq hd hd2 HQ i1 i2 hx1 hx2
      have p1 : wr.cell? ⟨w.heap.size, 1, none⟩ = some (.int .i64 (ca : Int)) := (blk_cell HS.out.bA 1).trans rfl
      have p2 : wr.cell? ⟨w.heap.size, 2, none⟩ = some (.slice A1 l1.length c1) := (blk_cell HS.out.bA 2).trans rfl
      have q0 : wr.cell? ⟨w.heap.size + 1, 0, none⟩ = some (.int .i64 (R : Int)) := (blk_cell HS.out.bB 0).trans rfl
      have q1 : wr.cell? ⟨w.heap.size + 1, 1, none⟩ = some (.int .i64 (cb : Int)) := (blk_cell HS.out.bB 1).trans rfl
      have q2 : wr.cell? ⟨w.heap.size + 1, 2, none⟩ = some (.slice A2 l2.length c2) := (blk_cell HS.out.bB 2).trans rfl
      have t2 : wr.cell? ⟨g, 2, none⟩ = some (.slice Ao acc.length co) := (blk_cell HS.out.bT 2).trans rfl
      go_wp2
      refine start_ (n := 12) (S := fun w' => w'.cell? ⟨g, 2, none⟩ = some (.slice Ao acc.length co) ∧ w'.cell? ⟨w.heap.size, 0, none⟩ = some (.int .i64 (R : Int)) ∧ w'.cell? ⟨w.heap.size, 1, none⟩ = some (.int .i64 (ca : Int)) ∧ w'.cell? ⟨w.heap.size, 2, none⟩ = some (.slice A1 l1.length c1) ∧ w'.cell? ⟨w.heap.size + 1, 0, none⟩ = some (.int .i64 (R : Int)) ∧ w'.cell? ⟨w.heap.size + 1, 1, none⟩ = some (.int .i64 (cb : Int)) ∧ w'.cell? ⟨w.heap.size + 1, 2, none⟩ = some (.slice A2 l2.length c2)) (ds := [11]) #[false, false, false, false, false, false, false, false, false, false, false, false] (by kernel_rfl) rfl rfl ⟨t2, p0, p1, p2, q0, q1, q2⟩ (fun hHeld => ?_)
      refine Own.anew_ (wN := wr) (by repeat (first | with_reducible exact Below.refl _ _ | with_reducible apply below_alloc | with_reducible apply pw_below_drewN | with_reducible apply below_drew1)) hHeld (fun wy hzb hHeld => ?_)
      replace HS := Aside0.mk (HS.out.below hzb)
      replace HR := Aside0.mk (Kd.R_below HR.out hzb)
      clear hzb t2 p0 p1 p2 q0 q1 q2
      refine pure_ (i := 0) (N := some 38) (v := ?_) (a' := ?_) #[true, false, false, false, false, false, false, false, false, false, false, false] rfl rfl (by kernel_rfl) (fun _ _ _ h => h) (Or.inl ⟨by rfl, ?_⟩) ?_ ?_
      rotate_left
      · intro w'
        go_simp
        with_reducible rfl
      rotate_left
      · simp only [Act.put, List.setIfInBounds_toArray, List.set_cons_zero, List.set_cons_succ, i64_w, i32_w]
        rfl
      refine pure_ (i := 3) (N := some 41) (v := ?_) (a' := ?_) #[true, false, false, true, false, false, false, false, false, false, false, false] rfl rfl (by kernel_rfl) (fun _ _ _ h => h) (Or.inl ⟨by rfl, ?_⟩) ?_ ?_
      rotate_left
      · intro w'
        go_simp
        with_reducible rfl
      rotate_left
      · simp only [Act.put, List.setIfInBounds_toArray, List.set_cons_zero, List.set_cons_succ, i64_w, i32_w]
        rfl
      refine pure_ (i := 7) (N := some 45) (v := ?_) (a' := ?_) #[true, false, false, true, false, false, false, true, false, false, false, false] rfl rfl (by kernel_rfl) (fun _ _ _ h => h) (Or.inl ⟨by rfl, ?_⟩) ?_ ?_
      rotate_left
      · intro w'
        go_simp
        with_reducible rfl
      rotate_left
      · simp only [Act.put, List.setIfInBounds_toArray, List.set_cons_zero, List.set_cons_succ, i64_w, i32_w]
        rfl
      refine take_ (i := 1) (N := some 39) (v := ?_) (a' := ?_) #[true, true, false, true, false, false, false, true, false, false, false, false] rfl rfl (by kernel_rfl) (fun _ _ _ h => h) (Or.inl ⟨by rfl, ?_⟩) hHeld ?_ ?_
      rotate_left
      · rintro w' ⟨s0, s1, s2, s3, s4, s5, s6⟩
        go_simp
        with_reducible rfl
      rotate_left
      · simp only [Act.put, List.setIfInBounds_toArray, List.set_cons_zero, List.set_cons_succ, i64_w, i32_w]
        rfl
      refine take_ (i := 2) (N := some 40) (v := ?_) (a' := ?_) #[true, true, true, true, false, false, false, true, false, false, false, false] rfl rfl (by kernel_rfl) (fun _ _ _ h => h) (Or.inl ⟨by rfl, ?_⟩) hHeld ?_ ?_
      rotate_left
      · rintro w' ⟨s0, s1, s2, s3, s4, s5, s6⟩
        go_simp
        with_reducible rfl
      rotate_left
      · simp only [Act.put, List.setIfInBounds_toArray, List.set_cons_zero, List.set_cons_succ, i64_w, i32_w]
        rfl
      refine take_ (i := 6) (N := some 44) (v := ?_) (a' := ?_) #[true, true, true, true, false, false, true, true, false, false, false, false] rfl rfl (by kernel_rfl) (fun _ _ _ h => h) (Or.inl ⟨by rfl, ?_⟩) hHeld ?_ ?_
      rotate_left
      · rintro w' ⟨s0, s1, s2, s3, s4, s5, s6⟩
        go_simp
        with_reducible rfl
      rotate_left
      · simp only [Act.put, List.setIfInBounds_toArray, List.set_cons_zero, List.set_cons_succ, i64_w, i32_w]
        rfl
      refine one_ (i := 4) (N := some 42) #[true, true, true, true, true, false, true, true, false, false, false, false] rfl rfl (by kernel_rfl) (by decide) (fun K hK => ?_)
      refine goes_ Try.func79 (by kernel_rfl) rfl #[.agg #[.int .i64 (R : Int), .int .i64 (ca : Int), (.slice A1 l1.length c1)], .int .i64 (r : Int)] (by rfl) rfl rfl (by (try simp only [List.map_toArray, List.map_cons, List.map_nil]); first | done | rfl) ?_
      with_reducible refine (boRow_own (R : Int) ca r _ _ l1 _ (Kd.C_below H1.out HS.out.be) C1.out hr100 (by omega) J1.out).mono ?_
      rintro e w7 ⟨A5, c5, rfl, hc5, hC5, hb⟩
      refine ⟨_, rfl, ?_⟩
      rw [← X1.out] at hc5 hC5 ⊢
      have HC5 := Aside0.mk (Kd.C_below hC5 hb)
      have HCC5 := Aside0.mk hc5
      replace HS := Aside0.mk (HS.out.below hb)
      replace HR := Aside0.mk (Kd.R_below HR.out hb)
      clear hb hC5 hc5
      refine hK.out _ _ ⟨(blk_cell HS.out.bT 2).trans rfl, (blk_cell HS.out.bA 0).trans rfl, (blk_cell HS.out.bA 1).trans rfl, (blk_cell HS.out.bA 2).trans rfl, (blk_cell HS.out.bB 0).trans rfl, (blk_cell HS.out.bB 1).trans rfl, (blk_cell HS.out.bB 2).trans rfl⟩ (fun hHeld => ?_)
      clear hK K
      refine norm_ (a' := ?_) ?_ ?_
      rotate_left
      · show Act.put _ (some 42) _ = _
        simp only [Act.put, List.setIfInBounds_toArray, List.set_cons_zero, List.set_cons_succ, i64_w, i32_w]
        rfl
      refine one_ (i := 5) (N := some 43) #[true, true, true, true, true, true, true, true, false, false, false, false] rfl rfl (by kernel_rfl) (by decide) (fun K hK => ?_)
      refine Kd.R_append_rows_step k71 (w0 := w) w.heap.size (by rfl) (.tmp 39) (.tmp 42) 22 71 (.agg #[.int .i64 0, .int .i64 0]) 16 rfl Try.underlying22 info71 rfl (by decide) (by omega) (.slice Ao acc.length co) acc xs1 _ _ _ (fun _ => True) (fun _ => False) rfl rfl ?aO ?aR (fun _ _ h => h) (fun _ h => h.elim) ?aF ?aB ?aS ?aL ?_
      (case aR => exact HC5.out)
      (case aB => exact HS.out.be)
      (case aF => exact (fun _ _ => trivial))
      (case aO => exact HR.out)
      (case aS => exact HS.out.be.size)
      (case aL => (try simp only [List.length_append]); omega)
      intro v6 w8 ho hb hg_ hat
      obtain ⟨An6, cn6, en⟩ := Kd.R_slice ho
      subst en
      replace HS := Aside0.mk (HS.out.grown HR.out hg_ hb)
      replace HR := Aside0.mk ho
      clear ho hb hg_ hat HC5 HCC5
      refine hK.out _ _ ⟨(blk_cell HS.out.bT 2).trans rfl, (blk_cell HS.out.bA 0).trans rfl, (blk_cell HS.out.bA 1).trans rfl, (blk_cell HS.out.bA 2).trans rfl, (blk_cell HS.out.bB 0).trans rfl, (blk_cell HS.out.bB 1).trans rfl, (blk_cell HS.out.bB 2).trans rfl⟩ (fun hHeld => ?_)
      clear hK K
      refine norm_ (a' := ?_) ?_ ?_
      rotate_left
      · show Act.put _ (some 43) _ = _
        simp only [Act.put, List.setIfInBounds_toArray, List.set_cons_zero, List.set_cons_succ, i64_w, i32_w]
        rfl
      refine one_ (i := 8) (N := some 46) #[true, true, true, true, true, true, true, true, true, false, false, false] rfl rfl (by kernel_rfl) (by decide) (fun K hK => ?_)
      refine goes_ Try.func79 (by kernel_rfl) rfl #[.agg #[.int .i64 (R : Int), .int .i64 (cb : Int), (.slice A2 l2.length c2)], .int .i64 (r : Int)] (by rfl) rfl rfl (by (try simp only [List.map_toArray, List.map_cons, List.map_nil]); first | done | rfl) ?_
      with_reducible refine (boRow_own (R : Int) cb r _ _ l2 _ (Kd.C_below H2.out HS.out.be) C2.out hr100 (by omega) J2.out).mono ?_
      rintro e w9 ⟨A7, c7, rfl, hc7, hC7, hb⟩
      refine ⟨_, rfl, ?_⟩
      rw [← X2.out] at hc7 hC7 ⊢
      have HC7 := Aside0.mk (Kd.C_below hC7 hb)
      have HCC7 := Aside0.mk hc7
      replace HS := Aside0.mk (HS.out.below hb)
      replace HR := Aside0.mk (Kd.R_below HR.out hb)
      clear hb hC7 hc7
      refine hK.out _ _ ⟨(blk_cell HS.out.bT 2).trans rfl, (blk_cell HS.out.bA 0).trans rfl, (blk_cell HS.out.bA 1).trans rfl, (blk_cell HS.out.bA 2).trans rfl, (blk_cell HS.out.bB 0).trans rfl, (blk_cell HS.out.bB 1).trans rfl, (blk_cell HS.out.bB 2).trans rfl⟩ (fun hHeld => ?_)
      clear hK K
      refine norm_ (a' := ?_) ?_ ?_
      rotate_left
      · show Act.put _ (some 46) _ = _
        simp only [Act.put, List.setIfInBounds_toArray, List.set_cons_zero, List.set_cons_succ, i64_w, i32_w]
        rfl
      refine one_ (i := 9) (N := some 47) #[true, true, true, true, true, true, true, true, true, true, false, false] rfl rfl (by kernel_rfl) (by decide) (fun K hK => ?_)
      refine Kd.R_append_rows_step k71 (w0 := w) w.heap.size (by rfl) (.tmp 43) (.tmp 46) 22 71 (.agg #[.int .i64 0, .int .i64 0]) 16 rfl Try.underlying22 info71 rfl (by decide) (by omega) (.slice An6 (acc ++ xs1).length cn6) (acc ++ xs1) xs2 _ _ _ (fun _ => True) (fun _ => False) rfl rfl ?aO ?aR (fun _ _ h => h) (fun _ h => h.elim) ?aF ?aB ?aS ?aL ?_
      (case aR => exact HC7.out)
      (case aB => exact HS.out.be)
      (case aF => exact (fun _ _ => trivial))
      (case aO => exact HR.out)
      (case aS => exact HS.out.be.size)
      (case aL => (try simp only [List.length_append]); omega)
      intro v8 w10 ho hb hg_ hat
      obtain ⟨An8, cn8, en⟩ := Kd.R_slice ho
      subst en
      replace HS := Aside0.mk (HS.out.grown HR.out hg_ hb)
      replace HR := Aside0.mk ho
      clear ho hb hg_ hat HC7 HCC7
      refine hK.out _ _ ⟨(blk_cell HS.out.bT 2).trans rfl, (blk_cell HS.out.bA 0).trans rfl, (blk_cell HS.out.bA 1).trans rfl, (blk_cell HS.out.bA 2).trans rfl, (blk_cell HS.out.bB 0).trans rfl, (blk_cell HS.out.bB 1).trans rfl, (blk_cell HS.out.bB 2).trans rfl⟩ (fun hHeld => ?_)
      clear hK K
      refine norm_ (a' := ?_) ?_ ?_
      rotate_left
      · show Act.put _ (some 47) _ = _
        simp only [Act.put, List.setIfInBounds_toArray, List.set_cons_zero, List.set_cons_succ, i64_w, i32_w]
        rfl
      refine pure_ (i := 10) (N := some 48) (v := ?_) (a' := ?_) #[true, true, true, true, true, true, true, true, true, true, true, false] rfl rfl (by kernel_rfl) (fun _ _ _ h => h) (Or.inl ⟨by rfl, ?_⟩) ?_ ?_
      rotate_left
      · intro w'
        go_simp
        with_reducible rfl
      rotate_left
      · simp only [Act.put, List.setIfInBounds_toArray, List.set_cons_zero, List.set_cons_succ, i64_w, i32_w]
        rfl
      have u2 := (blk_cell HS.out.bT 2).trans rfl
      have f2 := blk_frozen HS.out.bT 2
      refine last_ (i := 11) (N := none) #[true, true, true, true, true, true, true, true, true, true, true, true] rfl rfl (by kernel_rfl) (by decide) (fun K hK => ?_)
      refine skip_ (w1 := w10.setCell ⟨g, 2, none⟩ (.slice An8 ((acc ++ xs1) ++ xs2).length cn8)) (by rfl) rfl ?_ ?_
      · first | (go_simp; done) | (go_simp; rfl)
      refine hK.out _ _ ?_
      clear hK K
      refine done_ (by kernel_rfl) ?_
      replace HR := Aside0.mk (rowFar (p := g) (j := 2) (u := (.slice An8 ((acc ++ xs1) ++ xs2).length cn8)) HR.out rfl (Kd.R_ne HR.out HS.out.bT (by decide)))
      replace HS := Aside0.mk (HS.out.put (.slice An8 ((acc ++ xs1) ++ xs2).length cn8))
      clear hHeld u2 f2 J1 J2 X1 X2
      generalize w10.setCell ⟨g, 2, none⟩ (.slice An8 ((acc ++ xs1) ++ xs2).length cn8) = w11 at HS HR ⊢
      go_wp2
      go_roundw
      case rel => first | exact ⟨r + 1, _, (acc ++ xs1) ++ xs2, by go_num, by omega, by simp only [List.length_append]; omega, HQ2, HS, HR⟩ | ((repeat apply Exists.intro); exact ⟨⟨r + 1, _, (acc ++ xs1) ++ xs2, by go_num, by omega, by simp only [List.length_append]; omega, HQ2, HS, HR⟩, rfl⟩)
      case measure => simp [intOf]; omega
    · obtain rfl : r = R := by omega
      have hq := HQ.out
      rw [Nat.sub_self] at hq
      unfold besL at hq
      subst hq
      have HRZ := Aside0.mk (Kd.R_far1 HR.out rfl (Kd.R_ne HR.out HS.out.bR (by decide)))
      have t0 : wr.cell? ⟨g, 0, none⟩ = some (.int .i64 (r : Int)) := (blk_cell HS.out.bT 0).trans rfl
      have t1 : wr.cell? ⟨g, 1, none⟩ = some (.int .i64 ((ca : Int) + (cb : Int))) := (blk_cell HS.out.bT 1).trans rfl
      have t2 : wr.cell? ⟨g, 2, none⟩ = some (.slice Ao acc.length co) := (blk_cell HS.out.bT 2).trans rfl
      clear HQ
      go_wp2_with (first
        | (go_at_call 80; (with_reducible refine (spec_boIf.calls K3 _ _ (fun k_ => True ∧ k_ ≠ w.heap.size + 1 + 1) _ acc _ _ _ _ w _ HS.out.be HRZ.out G3.out).mono ?_); rintro e w9 ⟨v2, rfl, h2, hb, hk⟩; obtain ⟨Av, cv, ev⟩ := Kd.R_slice h2; subst ev; have BR9 := Aside0.mk ((hk.2 _ (blk_lt HS.out.bR) (fun h_ => h_.2 rfl)).trans HS.out.bR); have HR9 := Aside0.mk h2; have HB9 := Aside0.mk hb; have u0 := (blk_cell BR9.out 0).trans rfl; have u1 := (blk_cell BR9.out 1).trans rfl; have u2 := (blk_cell BR9.out 2).trans rfl; have f0 := blk_frozen BR9.out 0; have f1 := blk_frozen BR9.out 1; have f2 := blk_frozen BR9.out 2; clear h2 hb hk t0 t1 t2 p0 HRZ HR HS)
        | fail)
      have B1 := blk_set BR9.out 0 (.int .i64 (r : Int))
      have B2 := blk_set B1 1 (.int .i64 ((ca : Int) + (cb : Int)))
      have B3 := blk_set B2 2 (.slice Av acc.length cv)
      have R1 := Kd.R_set HR9.out BR9.out (by decide) 0 (.int .i64 (r : Int))
      have R2 := Kd.R_set R1 B1 (by decide) 1 (.int .i64 ((ca : Int) + (cb : Int)))
      have R3 := Kd.R_set R2 B2 (by decide) 2 (.slice Av acc.length cv)
      have e0 := blk_cell B3 0
      have e1 := blk_cell B3 1
      have e2 := blk_cell B3 2
      exact bodyPost_ret (v := .tuple #[.agg #[.int .i64 (r : Int), .int .i64 ((ca : Int) + (cb : Int)), .slice Av acc.length cv], .bool true]) (by simp [results, Try.results46, go_sem, e0, e1, e2]) rfl ⟨_, rfl, Kd.R_mono R3 (fun _ _ => trivial), below_set (below_set (below_set HB9.out (by omega)) (by omega)) (by omega)⟩
theorem spec_BesideBoards.calls (k : Nat) (a0_0 : Int) (a0_1 : Int) (A0_2 : Option Addr) (c0_2 : Nat) (l0_2 : List (S71)) (a1_0 : Int) (a1_1 : Int) (A1_2 : Option Addr) (c1_2 : Nat) (l1_2 : List (S71)) (r1 : Int) (r2 : Int) (r3 : List (S71)) (r4 : Bool) (w : World) (hr0_2 : Kd.C k71 w A0_2 l0_2.length l0_2) (hc0_2 : l0_2.length ≤ c0_2) (hr1_2 : Kd.C k71 w A1_2 l1_2.length l1_2) (hc1_2 : l1_2.length ≤ c1_2) (h : spec_BesideBoards.f k a0_0 a0_1 l0_2 a1_0 a1_1 l1_2 = some (r1, r2, r3, r4)) :
    Calls Try.prog 46 #[.agg #[.int .i64 a0_0, .int .i64 a0_1, .slice A0_2 l0_2.length c0_2], .agg #[.int .i64 a1_0, .int .i64 a1_1, .slice A1_2 l1_2.length c1_2]] w fun e w' => ∃ v2_ : Value, e = .returned (.tuple #[.agg #[.int .i64 r1, .int .i64 r2, v2_], .bool r4]) ∧ Kd.R k71 71 w' w.heap.size (fun _ => True) v2_ r3 ∧ Below w.heap.size w w' := by
  unfold spec_BesideBoards.f at h
  by_cases hk : a0_0 = a1_0 ∧ BesOk a0_0 a0_1 a1_1 l0_2 l1_2
  case neg => rw [if_neg hk] at h; simp at h
  rw [if_pos hk] at h
  simp only [Option.some.injEq, Prod.mk.injEq] at h
  obtain ⟨rfl, rfl, rfl, rfl⟩ := h
  obtain ⟨rfl, hk⟩ := hk
  obtain ⟨R, rfl⟩ : ∃ m : Nat, a0_0 = (m : Int) := ⟨a0_0.toNat, by have := hk.1.1.1; omega⟩
  obtain ⟨ca, rfl⟩ : ∃ m : Nat, a0_1 = (m : Int) := ⟨a0_1.toNat, by have := hk.1.2.1.1; omega⟩
  obtain ⟨cb, rfl⟩ : ∃ m : Nat, a1_1 = (m : Int) := ⟨a1_1.toNat, by have := hk.2.1.2.1.1; omega⟩
  exact BesideBoards_own R ca cb _ _ _ _ _ _ w hr0_2 hc0_2 hr1_2 hc1_2 hk
end Go.Proofs.Ytcilbmbgdcepgaa.P
