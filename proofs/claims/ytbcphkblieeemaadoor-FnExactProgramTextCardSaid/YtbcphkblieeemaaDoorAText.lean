/- The text of a program, in plain lists: both sides write the same. -/
import Derived.Test.YtbcphkblieeemaaDoorPx9
import Derived.Test.YtbcphkblieeemaaDoorPx28
import Derived.Test.YtbcphkblieeemaaDoorPx10
import Derived.Test.YtbcphkblieeemaaDoorAIns
import Derived.Test.YtbcphkblieeemaaDoorVProg
namespace Go.Proofs.YtbcphkblieeemaaDoor.A
open Go.RowKit Go.Proofs.YtbcphkblieeemaaDoorW.PrintWords Go.Proofs.YtbcphkblieeemaaDoorW.PrintLast Go.Proofs.YtbcphkblieeemaaDoorW.PrintMore Go.Proofs.YtbcphkblieeemaaDoor.P Go.Proofs.YtbcphkblieeemaaDoor.T
set_option linter.unusedVariables false
set_option linter.unusedSimpArgs false

theorem itB_one (m : Nat) (h : m < 10) : itB (m : Int) = ⟨#[UInt8.ofNat (48 + m)]⟩ := by
  unfold itB; rw [Int.toNat_natCast, Lib.decDigits, dif_pos h]
theorem itB_two (m : Nat) (h : ¬ m < 10) (h2 : m < 100) : itB (m : Int) = ⟨#[UInt8.ofNat (48 + m / 10), UInt8.ofNat (48 + m % 10)]⟩ := by
  unfold itB; rw [Int.toNat_natCast, Lib.decDigits, dif_neg h, Lib.decDigits, dif_pos (by omega)]; rfl
theorem itB_size (x : Int) (h0 : 0 ≤ x) (h1 : x < 100) : (itB x).size ≤ 2 := by
  obtain ⟨m, rfl⟩ := Int.eq_ofNat_of_zero_le h0
  by_cases h : m < 10
  · rw [itB_one m h]; simp [ByteArray.size]
  · rw [itB_two m h (by omega)]; simp [ByteArray.size]
theorem dig (m : Nat) (h : m < 10) : strOfNums [(wrap64 (48 + (m : Int))) % 256] = ⟨#[UInt8.ofNat (48 + m)]⟩ := by
  rw [wrap_id (by omega) (by omega), show ((48 : Int) + (m : Int)) % 256 = ((48 + m : Nat) : Int) by omega]
  simp only [strOfNums, List.map_cons, List.map_nil, Int.toNat_natCast]
theorem l1Num (x : Int) (h0 : 0 ≤ x) (h1 : x < 100) : Ev (fun k => spec_l1Num.f k x) (itB x) := by
  obtain ⟨m, rfl⟩ := Int.eq_ofNat_of_zero_le h0
  by_cases h : m < 10
  · refine Ev.step (fun k => spec_l1Num.f.eq_2 ..) (ev_pos (by omega) (ev_const ?_))
    rw [dig m h, itB_one m h]
  · refine Ev.step (fun k => spec_l1Num.f.eq_2 ..) (ev_neg (by omega) ?_)
    have e1 : wrap64 (Int.tdiv (m : Int) 10) = ((m / 10 : Nat) : Int) := by
      rw [show Int.tdiv (m : Int) 10 = ((m / 10 : Nat) : Int) from rfl, wrap_id (by omega) (by omega)]
    have e2 : Int.tmod (m : Int) 10 = ((m % 10 : Nat) : Int) := rfl
    rw [e1, e2]
    refine ev_bind (Ev.step (fun k => spec_l1Num.f.eq_2 ..) (ev_pos (by omega) (ev_const rfl))) ?_
    rw [dig (m / 10) (by omega)]
    refine ev_bindc rfl (ev_pos ?_ (ev_const ?_))
    · rw [dig (m % 10) (by omega)]; simp [ByteArray.size]
    · rw [dig (m % 10) (by omega), itB_two m h (by omega)]; rfl
/-- One line, as the reference joins it. -/
def lineB (x : S52) (o : ByteArray) : ByteArray :=
  if x.f0 = 0 then (o ++ ((⟨#[117, 112, 32]⟩ : ByteArray) ++ itB x.f1)) ++ (⟨#[10]⟩ : ByteArray)
  else if x.f0 = 1 then (o ++ ((((⟨#[100, 111, 119, 110, 32]⟩ : ByteArray) ++ itB x.f1) ++ (⟨#[32]⟩ : ByteArray)) ++ itB x.f2)) ++ (⟨#[10]⟩ : ByteArray)
  else if x.f0 = 2 then (o ++ ((⟨#[106, 117, 109, 112, 32]⟩ : ByteArray) ++ itB x.f2)) ++ (⟨#[10]⟩ : ByteArray)
  else (o ++ (⟨#[104, 97, 108, 116]⟩ : ByteArray)) ++ (⟨#[10]⟩ : ByteArray)
theorem lineB_size (x : S52) (o : ByteArray) (n c : Int) (hc : c ≤ 4) (hn : n ≤ 20) (h : OkI n c x) : (lineB x o).size ≤ o.size + 20 := by
  obtain ⟨h1, h2, h3, h4, h5, h6, h7, h8⟩ := h
  have s1 := itB_size x.f1 h3 (by omega)
  have s2 := itB_size x.f2 h5 (by omega)
  have z1 : (⟨#[117, 112, 32]⟩ : ByteArray).size = 3 := rfl
  have z2 : (⟨#[100, 111, 119, 110, 32]⟩ : ByteArray).size = 5 := rfl
  have z3 : (⟨#[106, 117, 109, 112, 32]⟩ : ByteArray).size = 5 := rfl
  have z4 : (⟨#[104, 97, 108, 116]⟩ : ByteArray).size = 4 := rfl
  have z5 : (⟨#[10]⟩ : ByteArray).size = 1 := rfl
  have z6 : (⟨#[32]⟩ : ByteArray).size = 1 := rfl
  unfold lineB
  split
  · simp only [ByteArray.size_append, z1, z2, z3, z4, z5, z6]; omega
  · split
    · simp only [ByteArray.size_append, z1, z2, z3, z4, z5, z6]; omega
    · split
      · simp only [ByteArray.size_append, z1, z2, z3, z4, z5, z6]; omega
      · simp only [ByteArray.size_append, z1, z2, z3, z4, z5, z6]; omega
theorem rdi_mid (pre : List S52) (y : S52) (suf : List S52) : rd_T52 (pre ++ y :: suf) (pre.length : Int) = y := by simp [rd_T52]
theorem ctText_loop (l : List S52) (c : Int) (hc : c ≤ 4) (hm : l.length ≤ 20) : ∀ (suf pre : List S52) (o : ByteArray), l = pre ++ suf → (∀ x ∈ suf, OkI l.length c x) → o.size + 20 * suf.length ≤ 1000 →
    Ev (fun k => spec_ctText.l0 k o l (pre.length : Int)) (suf.foldl (fun o x => lineB x o) o) := by
  intro suf
  induction suf with
  | nil =>
    intro pre o hl _ _
    subst hl
    exact Ev.step (fun k => spec_ctText.l0.eq_2 ..) (ev_neg (not_lt_end _) (ev_const rfl))
  | cons y suf ih =>
    intro pre o hl hok hs
    have hy := hok y (List.mem_cons_self ..)
    have hz := lineB_size y o _ c hc (by omega) hy
    have hih := ih (pre ++ [y]) (lineB y o) (by rw [hl]; simp) (fun x hx => hok x (List.mem_cons_of_mem _ hx)) (by simp at hs; omega)
    obtain ⟨h1, h2, h3, h4, h5, h6, h7, h8⟩ := hy
    have s1 := itB_size y.f1 h3 (by omega)
    have s2 := itB_size y.f2 h5 (by omega)
    have hm' : l.length ≤ maxLen := by simp only [maxLen]; omega
    subst hl
    simp only [List.length_cons] at hs
    refine Ev.step (fun k => spec_ctText.l0.eq_2 ..) (ev_pos (lt_mid _ _ _) (ev_pos (by omega) ?_))
    rw [rdi_mid, next_mid _ _ _ hm']
    rw [List.foldl_cons]
    unfold lineB at hih ⊢
    by_cases e0 : y.f0 = 0
    · rw [if_pos e0] at hih ⊢
      exact ev_pos e0 (ev_bind (l1Num _ h3 (by omega)) (ev_pos (by omega) (ev_pos (by omega) (ev_pos (by omega) hih))))
    rw [if_neg e0] at hih ⊢
    refine ev_neg e0 ?_
    by_cases e1 : y.f0 = 1
    · rw [if_pos e1] at hih ⊢
      exact ev_pos e1 (ev_bind (l1Num _ h3 (by omega)) (ev_pos (by omega) (ev_pos (by omega) (ev_bind (l1Num _ h5 (by omega)) (ev_pos (by omega) (ev_pos (by omega) (ev_pos (by omega) hih)))))))
    rw [if_neg e1] at hih ⊢
    refine ev_neg e1 ?_
    by_cases e2 : y.f0 = 2
    · rw [if_pos e2] at hih ⊢
      exact ev_pos e2 (ev_bind (l1Num _ h5 (by omega)) (ev_pos (by omega) (ev_pos (by omega) (ev_pos (by omega) hih))))
    rw [if_neg e2] at hih ⊢
    exact ev_neg e2 (ev_pos (by omega) (ev_pos (by omega) hih))
theorem imText_loop (l : List S52) (c : Int) (hc : c ≤ 4) (hm : l.length ≤ 20) : ∀ (suf pre : List S52) (o : ByteArray), l = pre ++ suf → (∀ x ∈ suf, OkI l.length c x) → o.size + 20 * suf.length ≤ 1000 →
    Ev (fun k => impl_ProgramText.l0 k o l (pre.length : Int)) (suf.foldl (fun o x => lineB x o) o) := by
  intro suf
  induction suf with
  | nil =>
    intro pre o hl _ _
    subst hl
    exact Ev.step (fun k => impl_ProgramText.l0.eq_2 ..) (ev_neg (not_lt_end _) (ev_const rfl))
  | cons y suf ih =>
    intro pre o hl hok hs
    have hy := hok y (List.mem_cons_self ..)
    have hz := lineB_size y o _ c hc (by omega) hy
    have hih := ih (pre ++ [y]) (lineB y o) (by rw [hl]; simp) (fun x hx => hok x (List.mem_cons_of_mem _ hx)) (by simp at hs; omega)
    obtain ⟨h1, h2, h3, h4, h5, h6, h7, h8⟩ := hy
    have s1 := itB_size y.f1 h3 (by omega)
    have s2 := itB_size y.f2 h5 (by omega)
    have hm' : l.length ≤ maxLen := by simp only [maxLen]; omega
    subst hl
    simp only [List.length_cons] at hs
    refine Ev.step (fun k => impl_ProgramText.l0.eq_2 ..) (ev_pos (lt_mid _ _ _) (ev_pos (by omega) ?_))
    rw [rdi_mid, next_mid _ _ _ hm']
    rw [List.foldl_cons]
    unfold lineB at hih ⊢
    have a0 : (⟨#[117, 112, 32]⟩ : ByteArray) = (⟨#[117, 112]⟩ : ByteArray) ++ (⟨#[32]⟩ : ByteArray) := rfl
    have a1 : (⟨#[100, 111, 119, 110, 32]⟩ : ByteArray) = (⟨#[100, 111, 119, 110]⟩ : ByteArray) ++ (⟨#[32]⟩ : ByteArray) := rfl
    have a2 : (⟨#[106, 117, 109, 112, 32]⟩ : ByteArray) = (⟨#[106, 117, 109, 112]⟩ : ByteArray) ++ (⟨#[32]⟩ : ByteArray) := rfl
    by_cases e0 : y.f0 = 0
    · rw [if_pos e0] at hih ⊢
      rw [a0] at hih ⊢
      simp only [ByteArray.append_assoc] at hih ⊢
      exact ev_pos e0 (ev_pos (by omega) (ev_pos (by omega) (ev_pos (by omega) (ev_pos (by omega) (ev_pos (by omega) (ev_pos (by omega) hih))))))
    rw [if_neg e0] at hih ⊢
    refine ev_neg e0 ?_
    by_cases e1 : y.f0 = 1
    · rw [if_pos e1] at hih ⊢
      rw [a1] at hih ⊢
      simp only [ByteArray.append_assoc] at hih ⊢
      exact ev_pos e1 (ev_pos (by omega) (ev_pos (by omega) (ev_pos (by omega) (ev_pos (by omega) (ev_pos (by omega) (ev_pos (by omega) (ev_pos (by omega) (ev_pos (by omega) (ev_pos (by omega) (ev_pos (by omega) hih))))))))))
    rw [if_neg e1] at hih ⊢
    refine ev_neg e1 ?_
    by_cases e2 : y.f0 = 2
    · rw [if_pos e2] at hih ⊢
      rw [a2] at hih ⊢
      simp only [ByteArray.append_assoc] at hih ⊢
      exact ev_pos e2 (ev_pos (by omega) (ev_pos (by omega) (ev_pos (by omega) (ev_pos (by omega) (ev_pos (by omega) (ev_pos (by omega) hih))))))
    rw [if_neg e2] at hih ⊢
    exact ev_neg e2 (ev_pos (by omega) (ev_pos (by omega) (ev_pos (by omega) hih)))
/-- Both sides give the same text. -/
theorem progText (l : List S52) (c : Int) (hm : l.length ≤ maxLen) : ∃ (s : ByteArray) (b : Bool), Ev (fun k => spec_ProgramText.f k l c) (s, b) ∧ Ev (fun k => impl_ProgramText.f k l c) (s, b) := by
  by_cases h : AreI l c
  · have h' := h
    obtain ⟨g1, g2, g3, g4, g5⟩ := h
    have q : ((⟨#[]⟩ : ByteArray)).size = 0 := rfl
    refine ⟨l.foldl (fun o x => lineB x o) ⟨#[]⟩, true, ?_, ?_⟩
    · unfold spec_ProgramText.f
      refine ev_bind (ctGood l c hm) ?_
      rw [show areI l c = true from decide_eq_true h']
      exact ev_pos rfl (ev_bind (ctText_loop l c g3 g5 l [] ⟨#[]⟩ rfl g1 (by omega)) (ev_const rfl))
    · unfold impl_ProgramText.f
      refine ev_bind (implAre l c hm) ?_
      rw [show areI l c = true from decide_eq_true h']
      exact ev_pos rfl (ev_bind (imText_loop l c g3 g5 l [] ⟨#[]⟩ rfl g1 (by omega)) (ev_const rfl))
  · refine ⟨⟨#[]⟩, false, ?_, ?_⟩
    · unfold spec_ProgramText.f
      refine ev_bind (ctGood l c hm) ?_
      rw [show areI l c = false from decide_eq_false h]
      exact ev_neg (by simp) (ev_const rfl)
    · unfold impl_ProgramText.f
      refine ev_bind (implAre l c hm) ?_
      rw [show areI l c = false from decide_eq_false h]
      exact ev_neg (by simp) (ev_const rfl)
theorem lawFnExactProgramText (A : Option Addr) (c : Nat) (l : List S54) (n : Int) (w : World) (hN : NamesIn w) (h1 : Kd.C k54 w A l.length l) (hc1 : l.length ≤ c) (hl : l.length ≤ maxLen) :
    Calls Tryd.prog 4 #[.slice A l.length c, .int .i64 n] w fun e w' => e = .returned (.bool true) ∧ Below w.heap.size w w' := by
  have e0 := szIns l 1048576 (by omega) hl
  by_cases g1 : (1048576 : Int) - (l.length : Int) < 0
  · rw [if_pos g1] at e0
    exact ProgramText_small A c l n _ w h1 hc1 e0 (by omega)
  rw [if_neg g1] at e0
  obtain ⟨K1, e1⟩ := toIns l (by omega)
  obtain ⟨K2, e2⟩ := eqIns (l.map cpI) (by simp only [maxLen, List.length_map]; omega)
  obtain ⟨s, b, ⟨K3, e3⟩, ⟨K4, e4⟩⟩ := progText (l.map cpI) n (by simp only [maxLen, List.length_map]; omega)
  exact ProgramText_walk (K1 + K2 + K3 + K4) A c l n _ (l.map cpI) s b w hN h1 hc1 e0 (by omega) (e1 _ (by omega)) (e3 _ (by omega)) (e4 _ (by omega)) (e2 _ (by omega))
end Go.Proofs.YtbcphkblieeemaaDoor.A
