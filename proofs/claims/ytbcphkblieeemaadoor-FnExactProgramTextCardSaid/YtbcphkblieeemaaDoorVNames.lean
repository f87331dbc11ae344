/- From the row's condition on what the package variables hold to the walk's facts. -/
import Derived.Test.YtbcphkblieeemaaDoorRows
import Derived.Test.YtbcphkblieeemaaDoorAText
import Derived.ProofKit
import Derived.LaidLaws
import Derived.Handed
import Derived.Lay
import Derived.Lib.LaidU8
namespace Go.Proofs.YtbcphkblieeemaaDoor.A
open Go.RowKit Go.Proofs.YtbcphkblieeemaaDoor.P
set_option maxRecDepth 100000 in
theorem names_of_laid {W : World} (h : laidMet Tryd.prog Rows.fnExactProgramTextRow.laid W) : NamesIn W := by
  obtain ⟨g, t, cs, fuel, p, hg, ht, hvar, hd⟩ := Lib.laidMet.reads h (.tail _ (.tail _ (.tail _ (.head _))))
  obtain rfl := Option.some.inj ((by kernel_rfl : Tryd.prog.globalNamed "loop.example/g00942/impl.instructionNames" = some 0).symm.trans hg)
  obtain rfl : t = 67 := Option.some.inj (ht.symm.trans (by kernel_rfl))
  have hu : Tryd.prog.underlying 67 = some (.array 4 9) := by kernel_rfl
  have hu9 : Tryd.prog.underlying 9 = some .string := by kernel_rfl
  have hc9 : Tryd.prog.cellsOf 9 = 1 := by kernel_rfl
  have key : ∀ (i : Nat) (bs : List UInt8), i < 4 → (∀ d, (([.lit (.string [117, 112]), .lit (.string [100, 111, 119, 110]), .lit (.string [106, 117, 109, 112]), .lit (.string [104, 97, 108, 116])] : List (DataW Unit))[i]? = some d → d = .lit (.string bs))) → W.cell? ⟨0, i, none⟩ = some (.string ⟨bs.toArray⟩) := by
    intro i bs hi hb
    obtain ⟨f', d, q, hdi, htr⟩ := Lib.array_elem hu hd i hi
    obtain rfl := hb d hdi
    rw [hc9, Nat.mul_one] at htr
    obtain ⟨s, hcs, hx, _⟩ := DataW.trod_string hu9 htr
    have hs : bs = s.data.toList := by simpa using (Prod.mk.inj hx).1
    have hce := World.var?_cell hg hvar i
    have hci : cs[i]? = some (.string s) := by
      have h2 : (cs.toList.drop i).head? = some (.string s) := by
        have := congrArg List.head? hcs
        simpa [List.head?_take] using this
      rw [List.head?_drop] at h2
      simpa using h2
    have hs2 : (⟨bs.toArray⟩ : ByteArray) = s := by
      obtain ⟨⟨sl⟩⟩ := s
      simp only at hs
      rw [hs]
    rw [hs2]
    simpa [hci] using hce
  exact ⟨key 0 _ (by omega) (fun d h => by simpa using h.symm), key 1 _ (by omega) (fun d h => by simpa using h.symm), key 2 _ (by omega) (fun d h => by simpa using h.symm), key 3 _ (by omega) (fun d h => by simpa using h.symm)⟩
end Go.Proofs.YtbcphkblieeemaaDoor.A
