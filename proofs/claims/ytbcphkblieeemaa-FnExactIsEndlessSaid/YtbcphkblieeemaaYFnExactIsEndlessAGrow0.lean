/- Pairs of states that show that a run never ends, in plain lists: the program's search and the reference's find the same. -/
import Derived.Test.YtbcphkblieeemaaYFnExactIsEndlessALines0
namespace Go.Proofs.Ytbcphkblieeemaa.A
open Go.RowKit Go.Proofs.YtbcphkblieeemaaW.PrintWords Go.Proofs.YtbcphkblieeemaaW.PrintLast Go.Proofs.YtbcphkblieeemaaW.PrintMore Go.Proofs.Ytbcphkblieeemaa.P Go.Proofs.Ytbcphkblieeemaa.T
set_option linter.unusedVariables false
set_option linter.unusedSimpArgs false
/-- All values of the first list are at least those of the second. -/
def geL : List Int → List Int → Bool
  | b :: bs, a :: us => decide (a ≤ b) && geL bs us
  | _, _ => true
def sAt (S : List S31) (k : Nat) : S31 := rd_T31 S (k : Int)
def pairB (l : List S55) (S : List S31) (Z : List Int) (g : Bool) (i k : Nat) : Bool :=
  if hLt l (sAt S k).f0 then false else if g = true then decide (rd Z (k : Int) < (i : Int)) && (geL (sAt S k).f1 (sAt S i).f1 && decide ((sAt S i).f0 = (sAt S k).f0)) else decide ((sAt S i).f0 = (sAt S k).f0) && decide ((sAt S i).f1 = (sAt S k).f1)
/-- The first i of a k. -/
def findI (p : Nat → Bool) : Nat → Nat → Option Nat
  | 0, _ => none
  | d + 1, i => if p i = true then some i else findI p d (i + 1)
def findK (l : List S55) (S : List S31) (Z : List Int) (g : Bool) : Nat → Nat → Int × Int
  | 0, _ => (-1, -1)
  | d + 1, k => match findI (fun i => pairB l S Z g i k) k 0 with
    | some i => ((i : Int), (k : Int))
    | none => findK l S Z g d (k + 1)
/-- The program's search: its test of a pair, and what it does. -/
def grownI (S : List S31) (i k : Nat) : Bool := decide ((sAt S i).f0 = (sAt S k).f0) && geL (sAt S k).f1 (sAt S i).f1
def firstOf (l : List S55) (S : List S31) (k first : Nat) : Nat := if 0 < k ∧ zeroL l (sAt S (k - 1)).f0 (sAt S (k - 1)).f1 = true then k else first
def growK (l : List S55) (S : List S31) : Nat → Nat → Nat → Int × Int × Bool
  | 0, _, _ => (0, 0, false)
  | d + 1, k, first => if hLt l (sAt S k).f0 then (0, 0, false) else
    match findI (fun i => grownI S i k) (k - firstOf l S k first) (firstOf l S k first) with
    | some i => ((i : Int), (k : Int), true)
    | none => growK l S d (k + 1) (firstOf l S k first)
theorem findI_skip (p q : Nat → Bool) (first : Nat) : ∀ (d i : Nat), i ≤ first → (∀ j, j < first → p j = false) → (∀ j, first ≤ j → p j = q j) → findI p d i = findI q (d - (first - i)) first := by
  intro d
  induction d with
  | zero => intro i hi h1 h2; rw [Nat.zero_sub]; rfl
  | succ d ih =>
    intro i hi h1 h2
    by_cases hlt : i < first
    · rw [findI, h1 i hlt, if_neg (by simp), ih (i + 1) (by omega) h1 h2]
      congr 1
      omega
    · obtain rfl : i = first := by omega
      rw [Nat.sub_self, Nat.sub_zero]
      clear ih hi hlt h1
      have key : ∀ e j, i ≤ j → findI p e j = findI q e j := by
        intro e
        induction e with
        | zero => intro j _; rfl
        | succ e ih => intro j hj; rw [findI, findI, h2 j hj, ih (j + 1) (by omega)]
      exact key _ _ (Nat.le_refl _)
theorem sAt_cons (x : S31) (S : List S31) (k : Nat) : sAt (x :: S) (k + 1) = sAt S k := by
  unfold sAt rd_T31
  simp
theorem sAt_zero (x : S31) (S : List S31) : sAt (x :: S) 0 = x := by simp [sAt, rd_T31]
theorem rd_cons (x : Int) (Z : List Int) (k : Nat) : rd (x :: Z) ((k + 1 : Nat) : Int) = rd Z (k : Int) := by
  unfold rd
  simp
variable {l : List S55}
/-- What is known of the run, of its program's twin, and of the zeros. -/
structure RunF (l : List S55) (S SI : List S31) (Z : List Int) (k0 z0 : Int) (b : Bool) : Prop where
  pos : 0 < S.length
  le : S.length ≤ SI.length
  same : ∀ j, j < S.length → sAt SI j = sAt S j
  go : ∀ j, j + 1 < S.length → ¬ hLt l (sAt S j).f0
  z0 : rd Z 0 = z0
  zs : ∀ j : Nat, j + 1 < S.length → rd Z ((j + 1 : Nat) : Int) = if zeroL l (sAt S j).f0 (sAt S j).f1 = true then k0 + (j : Int) else rd Z (j : Int)
  last : SI.length = S.length ∨ ∀ j, S.length ≤ j + 1 → j < SI.length → hLt l (sAt SI j).f0
theorem runF : ∀ (m : Nat) (k line : Int) (vs : List Int) (z : Int), RunF l (makeL l m k line vs z).1 (statesI l m line vs).1 (makeL l m k line vs z).2.1 k z (makeL l m k line vs z).2.2 := by
  intro m
  induction m with
  | zero =>
    intro k line vs z
    exact ⟨by simp [makeL], by simp [makeL, statesI], fun j hj => rfl, fun j hj => by simp [makeL] at hj, by simp [makeL, rd], fun j hj => by simp [makeL] at hj, .inl rfl⟩
  | succ m ih =>
    intro k line vs z
    by_cases h : hLt l line
    · rw [states_halted h, makeL, if_pos h]
      have hr : ∀ j, j < m + 1 + 1 → sAt (List.replicate (m + 1 + 1) (⟨line, vs⟩ : S31)) j = ⟨line, vs⟩ := by
        intro j hj
        simp [sAt, rd_T31, List.getD_eq_getElem?_getD, List.getElem?_replicate, hj]
      refine ⟨by simp, by simp, fun j hj => ?_, fun j hj => by simp at hj, by simp [rd], fun j hj => by simp at hj, .inr fun j _ hj => ?_⟩
      · simp only [List.length_singleton] at hj
        obtain rfl : j = 0 := by omega
        rw [hr 0 (by omega), sAt_zero]
      · simp only [List.length_replicate] at hj
        rw [hr j hj]
        exact h
    · rw [statesI, makeL, if_neg h]
      by_cases ho : (stepL l line vs).2.2 = true
      · rw [if_pos ho, if_pos ho]
        have q := ih (k + 1) (stepL l line vs).1 (stepL l line vs).2.1 (if zeroL l line vs = true then k else z)
        generalize hM : makeL l m (k + 1) (stepL l line vs).1 (stepL l line vs).2.1 (if zeroL l line vs = true then k else z) = M at q ⊢
        generalize statesI l m (stepL l line vs).1 (stepL l line vs).2.1 = T at q ⊢
        refine ⟨by simp, by simpa using q.le, fun j hj => ?_, fun j hj => ?_, by simp [rd], fun j hj => ?_, ?_⟩
        · simp only at hj ⊢
          cases j with
          | zero => rw [sAt_zero, sAt_zero]
          | succ j => rw [sAt_cons, sAt_cons]; exact q.same j (by simpa using hj)
        · simp only at hj ⊢
          cases j with
          | zero => rw [sAt_zero]; exact h
          | succ j => rw [sAt_cons]; exact q.go j (by simpa using hj)
        · simp only at hj ⊢
          rw [rd_cons]
          cases j with
          | zero =>
            rw [sAt_zero]
            have := q.z0
            simp only [Int.natCast_zero, Int.add_zero]
            rw [this]
            rfl
          | succ j =>
            rw [sAt_cons, q.zs j (by simpa using hj), rd_cons]
            split
            · push_cast; omega
            · rfl
        · rcases q.last with e | e
          · exact .inl (by simp [e])
          · refine .inr fun j hj hj2 => ?_
            simp only [List.length_cons] at hj hj2 ⊢
            cases j with
            | zero => exact absurd hj (by have := q.pos; omega)
            | succ j => rw [sAt_cons]; exact e j (by omega) (by omega)
      · rw [if_neg ho, if_neg ho]
        refine ⟨by simp, by simp, fun j hj => rfl, fun j hj => by simp at hj, by simp [rd], fun j hj => by simp at hj, .inl rfl⟩
/-- The reference's answer, turned. -/
def conv (p : Int × Int) : Int × Int × Bool := if p.2 < 0 then (0, 0, false) else (p.1, p.2, true)
theorem firstOf_eq {S SI : List S31} {Z : List Int} {b : Bool} (q : RunF l S SI Z 0 (-1) b) {k first : Nat} (hk : k < S.length) (h0 : k = 0 → first = 0) (hf : ∀ j, k = j + 1 → (first : Int) = rd Z (j : Int) + 1) :
    (firstOf l SI k first : Int) = rd Z (k : Int) + 1 := by
  unfold firstOf
  cases k with
  | zero => rw [if_neg (by omega), h0 rfl]; have := q.z0; simp only [Int.natCast_zero] at this ⊢; omega
  | succ j =>
    have e := q.zs j hk
    have s := q.same j (by omega)
    have := hf j rfl
    rw [Nat.add_sub_cancel, s]
    by_cases hz : zeroL l (sAt S j).f0 (sAt S j).f1 = true
    · rw [if_pos ⟨by omega, hz⟩]
      rw [if_pos hz] at e
      rw [e]; push_cast; omega
    · rw [if_neg (fun h => hz h.2)]
      rw [if_neg hz] at e
      rw [e]; omega
theorem grow_eq {S SI : List S31} {Z : List Int} {b : Bool} (q : RunF l S SI Z 0 (-1) b) : ∀ (d k first : Nat), k + d = S.length → (k = 0 → first = 0) → (∀ j, k = j + 1 → (first : Int) = rd Z (j : Int) + 1) →
    growK l SI (SI.length - k) k first = conv (findK l S Z true d k) := by
  intro d
  induction d with
  | zero =>
    intro k first hk h0 hf
    have hk2 : k = S.length := by omega
    rcases q.last with e | e
    · rw [show SI.length - k = 0 by omega]; rfl
    · by_cases hs : SI.length = k
      · rw [show SI.length - k = 0 by omega]; rfl
      · have hl := q.le
        obtain ⟨n, hn⟩ : ∃ n, SI.length - k = n + 1 := ⟨SI.length - k - 1, by omega⟩
        rw [hn, growK, if_pos (e k (by omega) (by omega))]
        rfl
  | succ d ih =>
    intro k first hk h0 hf
    have hl := q.le
    obtain ⟨n, hn⟩ : ∃ n, SI.length - k = n + 1 := ⟨SI.length - k - 1, by omega⟩
    have hfe := firstOf_eq q (by omega) h0 hf
    have hsk := q.same k (by omega)
    rw [hn, growK, findK]
    obtain ⟨ff, hff⟩ : ∃ ff, ff = firstOf l SI k first := ⟨_, rfl⟩
    rw [← hff] at hfe ⊢
    by_cases hh : hLt l (sAt SI k).f0
    · rw [if_pos hh]
      have hnone : ∀ e j, findI (fun i => pairB l S Z true i k) e j = none := by
        intro e
        induction e with
        | zero => intro j; rfl
        | succ e ih2 => intro j; rw [findI, if_neg (by unfold pairB; rw [if_pos (by rw [← hsk]; exact hh)]; simp), ih2]
      rw [hnone]
      simp only
      -- the last state alone can have halted
      have hd : d = 0 := by
        rcases Nat.eq_zero_or_pos d with h | h
        · exact h
        · exact absurd (by rw [← hsk]; exact hh) (q.go k (by omega))
      subst hd
      rfl
    · rw [if_neg hh]
      have hfk : ff ≤ k := by
        have : rd Z (k : Int) < (k : Int) := by
          clear ih hn hff hfe hh hsk hf h0
          have key : ∀ j : Nat, j < S.length → rd Z (j : Int) < (j : Int) := by
            intro j
            induction j with
            | zero => intro _; have := q.z0; simp only [Int.natCast_zero] at this ⊢; omega
            | succ j ihj =>
              intro hj
              have h1 := ihj (by omega)
              rw [q.zs j hj]
              split <;> (push_cast; omega)
          exact key k (by omega)
        omega
      have hp : findI (fun i => pairB l S Z true i k) k 0 = findI (fun i => grownI SI i k) (k - ff) ff := by
        have e := findI_skip (fun i => pairB l S Z true i k) (fun i => if i < k then grownI SI i k else pairB l S Z true i k) ff k 0 (Nat.zero_le _) (fun j hj => by
            unfold pairB; rw [if_neg (by rw [← hsk]; exact hh), if_pos rfl, show decide (rd Z (k : Int) < (j : Int)) = false from decide_eq_false (by omega)]; rfl) (fun j hj => by
            show pairB l S Z true j k = _
            split
            · rename_i hjk
              unfold pairB grownI
              rw [if_neg (by rw [← hsk]; exact hh), if_pos rfl, show decide (rd Z (k : Int) < (j : Int)) = true from decide_eq_true (by omega), hsk, q.same j (by omega), Bool.true_and, Bool.and_comm]
            · rfl)
        rw [Nat.sub_zero] at e
        rw [e]
        have key : ∀ e j, j + e ≤ k → findI (fun i => if i < k then grownI SI i k else pairB l S Z true i k) e j = findI (fun i => grownI SI i k) e j := by
          intro e
          induction e with
          | zero => intro j _; rfl
          | succ e ih2 => intro j hj; rw [findI, findI, ih2 (j + 1) (by omega)]; simp only [show j < k by omega, if_true]
        exact key _ _ (by omega)
      rw [hp]
      cases findI (fun i => grownI SI i k) (k - ff) ff with
      | some i =>
        simp only [conv]
        rw [if_neg (by omega)]
      | none =>
        simp only
        have := ih (k + 1) ff (by omega) (by omega) (fun j hj => by
          obtain rfl : j = k := by omega
          exact hfe)
        rw [← this]
        congr 1
        omega
def resGrow (l : List S55) (line : Int) (vs : List Int) (n : Int) : Int × Int × Bool :=
  if StOk l line vs ∧ 0 ≤ n ∧ n ≤ 2000 then conv (findK l (makeL l n.toNat 0 line vs (-1)).1 (makeL l n.toNat 0 line vs (-1)).2.1 true (makeL l n.toNat 0 line vs (-1)).1.length 0) else (0, 0, false)
theorem resGrow_eq (l : List S55) (line : Int) (vs : List Int) (n : Int) : resGrow l line vs n = if StOk l line vs ∧ 0 ≤ n ∧ n ≤ 2000 then growK l (statesI l n.toNat line vs).1 (statesI l n.toNat line vs).1.length 0 0 else (0, 0, false) := by
  unfold resGrow
  split
  · have q := runF (l := l) n.toNat 0 line vs (-1)
    have := grow_eq q (makeL l n.toNat 0 line vs (-1)).1.length 0 0 (Nat.zero_add _) (fun _ => rfl) (fun j h => by omega)
    rw [Nat.sub_zero] at this
    exact this.symm
  · rfl
/-! IsEndless. -/
def noZero (l : List S55) (S : List S31) : Nat → Nat → Bool
  | 0, _ => true
  | d + 1, i => !zeroL l (sAt S i).f0 (sAt S i).f1 && noZero l S d (i + 1)
/-- The program's answer for the states i and k. -/
def endI (l : List S55) (S : List S31) (i k : Nat) : Bool :=
  if hLt l (sAt S i).f0 ∨ hLt l (sAt S k).f0 ∨ (sAt S i).f0 ≠ (sAt S k).f0 then false
  else if (sAt S i).f1 = (sAt S k).f1 then true else noZero l S (k - i) i && geL (sAt S k).f1 (sAt S i).f1
theorem noZero_eq {S SI : List S31} {Z : List Int} {b : Bool} (q : RunF l S SI Z 0 (-1) b) : ∀ (d i : Nat), i + d < S.length → (noZero l SI d i = true ↔ rd Z ((i + d : Nat) : Int) < (i : Int)) := by
  have lt : ∀ j : Nat, j < S.length → rd Z (j : Int) < (j : Int) := by
    intro j
    induction j with
    | zero => intro _; have := q.z0; simp only [Int.natCast_zero] at this ⊢; omega
    | succ j ihj =>
      intro hj
      have h1 := ihj (by omega)
      rw [q.zs j hj]
      split <;> (push_cast; omega)
  have up : ∀ (d i : Nat), i + d < S.length → rd Z (i : Int) ≤ rd Z ((i + d : Nat) : Int) := by
    intro d
    induction d with
    | zero => intro i _; exact Int.le_refl _
    | succ d ih =>
      intro i hi
      have h1 := ih i (by omega)
      have h2 := lt (i + d) (by omega)
      have h3 := q.zs (i + d) (by omega)
      rw [show i + (d + 1) = (i + d) + 1 by omega, h3]
      split
      · omega
      · exact h1
  intro d
  induction d with
  | zero => intro i hi; simp only [noZero, Nat.add_zero, true_iff]; exact lt i (by omega)
  | succ d ih =>
    intro i hi
    have e := ih (i + 1) (by omega)
    have s := q.same i (by omega)
    have z := q.zs i (by omega)
    have u := up d (i + 1) (by omega)
    rw [show i + 1 + d = i + (d + 1) by omega] at e u
    rw [noZero, s, Bool.and_eq_true]
    by_cases hz : zeroL l (sAt S i).f0 (sAt S i).f1 = true
    · rw [if_pos hz] at z
      rw [hz]
      constructor
      · intro h; simp at h
      · intro h; push_cast at u z h; omega
    · replace hz : zeroL l (sAt S i).f0 (sAt S i).f1 = false := by simpa using hz
      rw [if_neg (by rw [hz]; simp)] at z
      rw [hz]
      constructor
      · intro h
        have h2 := e.1 h.2
        -- no zero at i either: the last one before k lies before i
        rcases Nat.eq_zero_or_pos d with hd | hd
        · subst hd
          have h3 := lt i (by omega)
          simp only [Nat.zero_add] at h2 ⊢
          rw [z]; exact h3
        · have h3 := lt i (by omega)
          refine Classical.byContradiction fun hn => ?_
          have h4 : rd Z ((i + (d + 1) : Nat) : Int) = (i : Int) := by push_cast at h2 hn ⊢; omega
          -- a value i is first taken at i + 1
          have key : ∀ c : Nat, i + 1 + c < S.length → rd Z ((i + 1 + c : Nat) : Int) ≠ (i : Int) := by
            intro c
            induction c with
            | zero => intro hc; rw [Nat.add_zero, z]; omega
            | succ c ihc =>
              intro hc
              have h5 := q.zs (i + 1 + c) (by omega)
              rw [show i + 1 + (c + 1) = i + 1 + c + 1 by omega, h5]
              split
              · push_cast; omega
              · exact ihc (by omega)
          exact key d (by omega) (by rw [show i + 1 + d = i + (d + 1) by omega]; exact h4)
      · intro h
        refine ⟨rfl, e.2 ?_⟩
        push_cast at h ⊢; omega
theorem end_eq {S SI : List S31} {Z : List Int} {b : Bool} (q : RunF l S SI Z 0 (-1) b) {i k : Nat} (hik : i < k) (hk : k < SI.length) (hs : S.length ≤ k + 1) :
    endI l SI i k = (decide (S.length = k + 1) && (pairB l S Z false i k || pairB l S Z true i k)) := by
  unfold endI
  by_cases hl : S.length = k + 1
  · rw [show decide (S.length = k + 1) = true from decide_eq_true hl, Bool.true_and]
    have s1 := q.same i (by omega)
    have s2 := q.same k (by omega)
    have g := q.go i (by omega)
    have nz := noZero_eq q (k - i) i (by omega)
    rw [show i + (k - i) = k by omega] at nz
    rw [s1, s2]
    by_cases hh : hLt l (sAt S k).f0
    · rw [if_pos (.inr (.inl hh)), show pairB l S Z false i k = false from if_pos hh, show pairB l S Z true i k = false from if_pos hh]; rfl
    · have p1 : pairB l S Z false i k = (decide ((sAt S i).f0 = (sAt S k).f0) && decide ((sAt S i).f1 = (sAt S k).f1)) := by
        unfold pairB; rw [if_neg hh, if_neg (by simp)]
      have p2 : pairB l S Z true i k = (decide (rd Z (k : Int) < (i : Int)) && (geL (sAt S k).f1 (sAt S i).f1 && decide ((sAt S i).f0 = (sAt S k).f0))) := by
        unfold pairB; rw [if_neg hh, if_pos rfl]
      rw [p1, p2]
      by_cases hf : (sAt S i).f0 = (sAt S k).f0
      · rw [if_neg (fun h => h.elim g (fun h => h.elim hh (fun h => h hf))), show decide ((sAt S i).f0 = (sAt S k).f0) = true from decide_eq_true hf, Bool.true_and, Bool.and_true]
        by_cases hv : (sAt S i).f1 = (sAt S k).f1
        · rw [if_pos hv, show decide ((sAt S i).f1 = (sAt S k).f1) = true from decide_eq_true hv, Bool.true_or]
        · rw [if_neg hv, show decide ((sAt S i).f1 = (sAt S k).f1) = false from decide_eq_false hv, Bool.false_or]
          congr 1
          rw [Bool.eq_iff_iff, nz, decide_eq_true_eq]
      · rw [if_pos (.inr (.inr hf)), show decide ((sAt S i).f0 = (sAt S k).f0) = false from decide_eq_false hf]
        simp
  · rw [show decide (S.length = k + 1) = false from decide_eq_false hl, Bool.false_and]
    rcases q.last with e | e
    · omega
    · rw [if_pos (.inr (.inl (e k (by omega) hk)))]
/-- What both answer. -/
def resEnd (l : List S55) (line : Int) (vs : List Int) (i k : Int) : Bool × Bool :=
  if StOk l line vs ∧ 0 ≤ i ∧ i < k ∧ k ≤ 2000 then (if (makeL l k.toNat 0 line vs (-1)).2.2 = true then (false, false) else
    (((makeL l k.toNat 0 line vs (-1)).1.length == k.toNat + 1) && (pairB l (makeL l k.toNat 0 line vs (-1)).1 (makeL l k.toNat 0 line vs (-1)).2.1 false i.toNat k.toNat || pairB l (makeL l k.toNat 0 line vs (-1)).1 (makeL l k.toNat 0 line vs (-1)).2.1 true i.toNat k.toNat), true)) else (false, false)
theorem statesI_full (l : List S55) : ∀ (m : Nat) (line : Int) (vs : List Int), (statesI l m line vs).2 = true → (statesI l m line vs).1.length = m + 1 := by
  intro m
  induction m with
  | zero => intro line vs _; rfl
  | succ m ih =>
    intro line vs h
    rw [statesI] at h ⊢
    by_cases ho : (stepL l line vs).2.2 = true
    · rw [if_pos ho] at h ⊢
      simp only at h
      simp [ih _ _ h]
    · rw [if_neg ho] at h; simp at h
theorem resEnd_eq (l : List S55) (line : Int) (vs : List Int) (i k : Int) : resEnd l line vs i k = if StOk l line vs ∧ 0 ≤ i ∧ i < k ∧ k ≤ 2000 then (if (statesI l k.toNat line vs).2 = true then (endI l (statesI l k.toNat line vs).1 i.toNat k.toNat, true) else (false, false)) else (false, false) := by
  unfold resEnd
  by_cases h : StOk l line vs ∧ 0 ≤ i ∧ i < k ∧ k ≤ 2000
  · rw [if_pos h, if_pos h]
    have f := (fold_states (l := l) (fun (u : Unit) _ => u) (fun _ _ => rfl) k.toNat 0 line vs (-1) ()).1
    have q := runF (l := l) k.toNat 0 line vs (-1)
    have hl := (makeL_len (l := l) k.toNat 0 line vs (-1)).1
    by_cases hb : (makeL l k.toNat 0 line vs (-1)).2.2 = true
    · rw [if_pos hb, if_neg (show ¬ (statesI l k.toNat line vs).2 = true by rw [f, hb]; simp)]
    · have hs : (statesI l k.toNat line vs).2 = true := by rw [f]; simpa using hb
      have hn := statesI_full l k.toNat line vs hs
      rw [if_neg hb, if_pos hs, end_eq q (by omega) (by omega) (by omega), show decide ((makeL l k.toNat 0 line vs (-1)).1.length = k.toNat + 1) = ((makeL l k.toNat 0 line vs (-1)).1.length == k.toNat + 1) by rw [Bool.eq_iff_iff]; simp]
  · rw [if_neg h, if_neg h]
end Go.Proofs.Ytbcphkblieeemaa.A
