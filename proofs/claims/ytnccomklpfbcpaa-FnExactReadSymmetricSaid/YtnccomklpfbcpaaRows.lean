/-
  No cell of these rows narrows 'for every input' (looked for: loops, veiled, ifaces, maps, wideKeys, modest, calm, conditions, laid).
  DERIVED. THE GIVEN ROWS OF THIS SEAT. 6 by the template 'for every input the law returns true; each argument reads behind the call as it read before'; 0 by the template 'total and deterministic' (their statements: YtnccomklpfbcpaaTotals.lean).
  GIVEN WITH THE SEED: the statements are not yours to turn. If you find one false, say at which input.
  Laid BY PROGRAM, IN A SANDBOX (cutbox-rows.mjs): the forced cells as the released guide's own fill.sh prints them over the translation 6f0e393ffcff963b… (all of the seat's roots in one cut). By AI agents, Wed Nov 11 2026. No macro, syntax, notation, axiom, sorry.
-/
import Derived.Test.YtnccomklpfbcpaaChecked
import GoSem.Claim
import GoSem.ClaimJoined
import GoSem.ClaimMapViews
import Derived.JoinedTies
import Derived.KernelRfl
namespace Go.Proofs.Ytnccomklpfbcpaa
/- THE CELL 'sum', in the pinned program and in every row, IS THE sha256 OF THE DUMP (.gsa) THAT YtnccomklpfbcpaaProg.lean LOADS. Nothing in Lean hashes anything: it is a label: what it is worth is what the hold of that sum in a sandbox is worth. -/
noncomputable def Try.pinned : Pinned := { name := "ytnccomklpfbcpaa", sum := "6f0e393ffcff963baa8cf91ecb2578de5ea279fd0e2dafbc701c8a5e860760c2", checked := Try.checked }
namespace Rows
def none {H : Type} : Left H := { results := [], args := [] }

/-- 'laws.FnExactRoundsFor': WHATEVER THE INPUT: true; the input reads as it did. -/
def fnExactRoundsForSpec : ChangeSpec := { name := "fnExactRoundsFor", fn := fun _ => fun
  | [d] => { results := [.lit (.bool true)], args := [d] }
  | _ => none }
def fnExactRoundsForRow : OpenClaim := { program := "ytnccomklpfbcpaa", sum := "6f0e393ffcff963baa8cf91ecb2578de5ea279fd0e2dafbc701c8a5e860760c2", func := "loop.example/g00942/laws.FnExactRoundsFor", spec := "fnExactRoundsFor", apart := false }
def FnExactRoundsForSaid : Prop := fnExactRoundsForRow.holds Try.pinned (OpenSpec.ofChange fnExactRoundsForSpec)

/-- ITS FALSE NEIGHBOUR: 'it returns false'. Refute it at one input. -/
def fnExactRoundsForWrong : ChangeSpec := { name := "fnExactRoundsFor", fn := fun _ => fun
  | [d] => { results := [.lit (.bool false)], args := [d] }
  | _ => none }
def FnExactRoundsForWrongFalsely : Prop := fnExactRoundsForRow.holds Try.pinned (OpenSpec.ofChange fnExactRoundsForWrong)

/-- 'laws.FnExactSortedEntries': WHATEVER THE INPUT: true; the input reads as it did. -/
def fnExactSortedEntriesSpec : ChangeSpec := { name := "fnExactSortedEntries", fn := fun _ => fun
  | [d] => { results := [.lit (.bool true)], args := [d] }
  | _ => none }
def fnExactSortedEntriesRow : OpenClaim := { program := "ytnccomklpfbcpaa", sum := "6f0e393ffcff963baa8cf91ecb2578de5ea279fd0e2dafbc701c8a5e860760c2", func := "loop.example/g00942/laws.FnExactSortedEntries", spec := "fnExactSortedEntries", apart := false }
def FnExactSortedEntriesSaid : Prop := fnExactSortedEntriesRow.holds Try.pinned (OpenSpec.ofChange fnExactSortedEntriesSpec)

/-- ITS FALSE NEIGHBOUR: 'it returns false'. Refute it at one input. -/
def fnExactSortedEntriesWrong : ChangeSpec := { name := "fnExactSortedEntries", fn := fun _ => fun
  | [d] => { results := [.lit (.bool false)], args := [d] }
  | _ => none }
def FnExactSortedEntriesWrongFalsely : Prop := fnExactSortedEntriesRow.holds Try.pinned (OpenSpec.ofChange fnExactSortedEntriesWrong)

/-- 'laws.FnExactRampsNeeded': WHATEVER THE INPUT: true; the input reads as it did. -/
def fnExactRampsNeededSpec : ChangeSpec := { name := "fnExactRampsNeeded", fn := fun _ => fun
  | [d] => { results := [.lit (.bool true)], args := [d] }
  | _ => none }
def fnExactRampsNeededRow : OpenClaim := { program := "ytnccomklpfbcpaa", sum := "6f0e393ffcff963baa8cf91ecb2578de5ea279fd0e2dafbc701c8a5e860760c2", func := "loop.example/g00942/laws.FnExactRampsNeeded", spec := "fnExactRampsNeeded", apart := false }
def FnExactRampsNeededSaid : Prop := fnExactRampsNeededRow.holds Try.pinned (OpenSpec.ofChange fnExactRampsNeededSpec)

/-- ITS FALSE NEIGHBOUR: 'it returns false'. Refute it at one input. -/
def fnExactRampsNeededWrong : ChangeSpec := { name := "fnExactRampsNeeded", fn := fun _ => fun
  | [d] => { results := [.lit (.bool false)], args := [d] }
  | _ => none }
def FnExactRampsNeededWrongFalsely : Prop := fnExactRampsNeededRow.holds Try.pinned (OpenSpec.ofChange fnExactRampsNeededWrong)

/-- 'laws.FnExactSymmetricValues': WHATEVER THE INPUT: true; the input reads as it did. -/
def fnExactSymmetricValuesSpec : ChangeSpec := { name := "fnExactSymmetricValues", fn := fun _ => fun
  | [d] => { results := [.lit (.bool true)], args := [d] }
  | _ => none }
def fnExactSymmetricValuesRow : OpenClaim := { program := "ytnccomklpfbcpaa", sum := "6f0e393ffcff963baa8cf91ecb2578de5ea279fd0e2dafbc701c8a5e860760c2", func := "loop.example/g00942/laws.FnExactSymmetricValues", spec := "fnExactSymmetricValues", apart := false }
def FnExactSymmetricValuesSaid : Prop := fnExactSymmetricValuesRow.holds Try.pinned (OpenSpec.ofChange fnExactSymmetricValuesSpec)

/-- ITS FALSE NEIGHBOUR: 'it returns false'. Refute it at one input. -/
def fnExactSymmetricValuesWrong : ChangeSpec := { name := "fnExactSymmetricValues", fn := fun _ => fun
  | [d] => { results := [.lit (.bool false)], args := [d] }
  | _ => none }
def FnExactSymmetricValuesWrongFalsely : Prop := fnExactSymmetricValuesRow.holds Try.pinned (OpenSpec.ofChange fnExactSymmetricValuesWrong)

/-- 'laws.FnExactCompileTable': WHATEVER THE INPUT: true; the input reads as it did. -/
def fnExactCompileTableSpec : ChangeSpec := { name := "fnExactCompileTable", fn := fun _ => fun
  | [d] => { results := [.lit (.bool true)], args := [d] }
  | _ => none }
def fnExactCompileTableRow : OpenClaim := { program := "ytnccomklpfbcpaa", sum := "6f0e393ffcff963baa8cf91ecb2578de5ea279fd0e2dafbc701c8a5e860760c2", func := "loop.example/g00942/laws.FnExactCompileTable", spec := "fnExactCompileTable", apart := false }
def FnExactCompileTableSaid : Prop := fnExactCompileTableRow.holds Try.pinned (OpenSpec.ofChange fnExactCompileTableSpec)

/-- ITS FALSE NEIGHBOUR: 'it returns false'. Refute it at one input. -/
def fnExactCompileTableWrong : ChangeSpec := { name := "fnExactCompileTable", fn := fun _ => fun
  | [d] => { results := [.lit (.bool false)], args := [d] }
  | _ => none }
def FnExactCompileTableWrongFalsely : Prop := fnExactCompileTableRow.holds Try.pinned (OpenSpec.ofChange fnExactCompileTableWrong)

/-- 'laws.FnExactReadSymmetric': WHATEVER THE INPUT: true; the input reads as it did. -/
def fnExactReadSymmetricSpec : ChangeSpec := { name := "fnExactReadSymmetric", fn := fun _ => fun
  | [d1, d2] => { results := [.lit (.bool true)], args := [d1, d2] }
  | _ => none }
def fnExactReadSymmetricRow : OpenClaim := { program := "ytnccomklpfbcpaa", sum := "6f0e393ffcff963baa8cf91ecb2578de5ea279fd0e2dafbc701c8a5e860760c2", func := "loop.example/g00942/laws.FnExactReadSymmetric", spec := "fnExactReadSymmetric", apart := false }
def FnExactReadSymmetricSaid : Prop := fnExactReadSymmetricRow.holds Try.pinned (OpenSpec.ofChange fnExactReadSymmetricSpec)

/-- ITS FALSE NEIGHBOUR: 'it returns false'. Refute it at one input. -/
def fnExactReadSymmetricWrong : ChangeSpec := { name := "fnExactReadSymmetric", fn := fun _ => fun
  | [d1, d2] => { results := [.lit (.bool false)], args := [d1, d2] }
  | _ => none }
def FnExactReadSymmetricWrongFalsely : Prop := fnExactReadSymmetricRow.holds Try.pinned (OpenSpec.ofChange fnExactReadSymmetricWrong)

/- THE SECOND FORM. 'bulk': how many values and letters a reading holds, each counted each time it is reached (what is shared counts as often as it is met; a slice's spare places count too). A statement '..UptoSaid' is the law's where the arguments, and the package variables that the reading takes, are together of bulk at most 1048576: NARROWER than '..Said'. Prove '..Said' where nothing that the law and all that it calls make is longer than what came in: it says more and counts as full. Else prove '..UptoSaid'. A law counts once. -/
mutual
def uptoBulk {H : Type} : DataW H → Nat
  | .lit (.string bytes) => bytes.length + 1
  | .lit _ => 1
  | .nil => 1
  | .ptr d => uptoBulk d + 1
  | .slice elems spare => uptoBulkAll elems + uptoBulkAll spare + 1
  | .agg parts => uptoBulkAll parts + 1
  | .iface _ d => uptoBulk d + 1
  | .map entries => uptoBulkEntries entries + 1
  | .held _ => 1
def uptoBulkAll {H : Type} : List (DataW H) → Nat
  | [] => 0
  | d :: r => uptoBulk d + uptoBulkAll r
def uptoBulkEntries {H : Type} : List (Lit × DataW H) → Nat
  | [] => 0
  | x :: r => uptoBulkEntry x + uptoBulkEntries r
def uptoBulkEntry {H : Type} : Lit × DataW H → Nat
  | (.string bytes, d) => bytes.length + uptoBulk d + 1
  | (_, d) => uptoBulk d + 1
 end
def uptoSmall : (H : Type) → List (DataW H) → Bool := fun _ ds => decide (uptoBulkAll ds ≤ 1048576)
def OpenSpec.upto (s : _root_.Go.ChangeSpec) : _root_.Go.OpenSpec := { _root_.Go.OpenSpec.ofChange s with cond := some uptoSmall }

/-- 'laws.FnExactRoundsFor', WHERE WHAT IT READS IS OF BULK AT MOST 1048576: true; the input reads as it did. -/
def fnExactRoundsForUptoRow : OpenClaim := { program := "ytnccomklpfbcpaa", sum := "6f0e393ffcff963baa8cf91ecb2578de5ea279fd0e2dafbc701c8a5e860760c2", func := "loop.example/g00942/laws.FnExactRoundsFor", spec := "fnExactRoundsFor", apart := false, narrowed := true }
def FnExactRoundsForUptoSaid : Prop := fnExactRoundsForUptoRow.holds Try.pinned (OpenSpec.upto fnExactRoundsForSpec)

/-- 'laws.FnExactSortedEntries', WHERE WHAT IT READS IS OF BULK AT MOST 1048576: true; the input reads as it did. -/
def fnExactSortedEntriesUptoRow : OpenClaim := { program := "ytnccomklpfbcpaa", sum := "6f0e393ffcff963baa8cf91ecb2578de5ea279fd0e2dafbc701c8a5e860760c2", func := "loop.example/g00942/laws.FnExactSortedEntries", spec := "fnExactSortedEntries", apart := false, narrowed := true }
def FnExactSortedEntriesUptoSaid : Prop := fnExactSortedEntriesUptoRow.holds Try.pinned (OpenSpec.upto fnExactSortedEntriesSpec)

/-- 'laws.FnExactRampsNeeded', WHERE WHAT IT READS IS OF BULK AT MOST 1048576: true; the input reads as it did. -/
def fnExactRampsNeededUptoRow : OpenClaim := { program := "ytnccomklpfbcpaa", sum := "6f0e393ffcff963baa8cf91ecb2578de5ea279fd0e2dafbc701c8a5e860760c2", func := "loop.example/g00942/laws.FnExactRampsNeeded", spec := "fnExactRampsNeeded", apart := false, narrowed := true }
def FnExactRampsNeededUptoSaid : Prop := fnExactRampsNeededUptoRow.holds Try.pinned (OpenSpec.upto fnExactRampsNeededSpec)

/-- 'laws.FnExactSymmetricValues', WHERE WHAT IT READS IS OF BULK AT MOST 1048576: true; the input reads as it did. -/
def fnExactSymmetricValuesUptoRow : OpenClaim := { program := "ytnccomklpfbcpaa", sum := "6f0e393ffcff963baa8cf91ecb2578de5ea279fd0e2dafbc701c8a5e860760c2", func := "loop.example/g00942/laws.FnExactSymmetricValues", spec := "fnExactSymmetricValues", apart := false, narrowed := true }
def FnExactSymmetricValuesUptoSaid : Prop := fnExactSymmetricValuesUptoRow.holds Try.pinned (OpenSpec.upto fnExactSymmetricValuesSpec)

/-- 'laws.FnExactCompileTable', WHERE WHAT IT READS IS OF BULK AT MOST 1048576: true; the input reads as it did. -/
def fnExactCompileTableUptoRow : OpenClaim := { program := "ytnccomklpfbcpaa", sum := "6f0e393ffcff963baa8cf91ecb2578de5ea279fd0e2dafbc701c8a5e860760c2", func := "loop.example/g00942/laws.FnExactCompileTable", spec := "fnExactCompileTable", apart := false, narrowed := true }
def FnExactCompileTableUptoSaid : Prop := fnExactCompileTableUptoRow.holds Try.pinned (OpenSpec.upto fnExactCompileTableSpec)

/-- 'laws.FnExactReadSymmetric', WHERE WHAT IT READS IS OF BULK AT MOST 1048576: true; the input reads as it did. -/
def fnExactReadSymmetricUptoRow : OpenClaim := { program := "ytnccomklpfbcpaa", sum := "6f0e393ffcff963baa8cf91ecb2578de5ea279fd0e2dafbc701c8a5e860760c2", func := "loop.example/g00942/laws.FnExactReadSymmetric", spec := "fnExactReadSymmetric", apart := false, narrowed := true }
def FnExactReadSymmetricUptoSaid : Prop := fnExactReadSymmetricUptoRow.holds Try.pinned (OpenSpec.upto fnExactReadSymmetricSpec)

end Rows
end Go.Proofs.Ytnccomklpfbcpaa
