/-
  No cell of these rows narrows 'for every input' (looked for: loops, veiled, ifaces, maps, wideKeys, modest, calm, conditions, laid).
  DERIVED. THE GIVEN ROWS OF THIS SEAT. 8 by the template 'for every input the law returns true; each argument reads behind the call as it read before'; 0 by the template 'total and deterministic' (their statements: YtbcphkblieeemaaTotals.lean).
  GIVEN WITH THE SEED: the statements are not yours to turn. If you find one false, say at which input.
  Laid BY PROGRAM, IN A SANDBOX (cutbox-rows.mjs): the forced cells as the released guide's own fill.sh prints them over the translation 4b32c15b27c1cc37… (all of the seat's roots in one cut). By AI agents, Wed Nov 11 2026. No macro, syntax, notation, axiom, sorry.
-/
import Derived.Test.YtbcphkblieeemaaChecked
import GoSem.Claim
import GoSem.ClaimJoined
import GoSem.ClaimMapViews
import Derived.JoinedTies
import Derived.KernelRfl
namespace Go.Proofs.Ytbcphkblieeemaa
/- THE CELL 'sum', in the pinned program and in every row, IS THE sha256 OF THE DUMP (.gsa) THAT YtbcphkblieeemaaProg.lean LOADS. Nothing in Lean hashes anything: it is a label: what it is worth is what the hold of that sum in a sandbox is worth. -/
noncomputable def Try.pinned : Pinned := { name := "ytbcphkblieeemaa", sum := "4b32c15b27c1cc370675f00c8fbe0e8ef3c90522215f9d58909931c80458c7fa", checked := Try.checked }
namespace Rows
def none {H : Type} : Left H := { results := [], args := [] }

/-- 'laws.FnExactIsCounterState': WHATEVER THE INPUT: true; the input reads as it did. -/
def fnExactIsCounterStateSpec : ChangeSpec := { name := "fnExactIsCounterState", fn := fun _ => fun
  | [d1, d2] => { results := [.lit (.bool true)], args := [d1, d2] }
  | _ => none }
def fnExactIsCounterStateRow : OpenClaim := { program := "ytbcphkblieeemaa", sum := "4b32c15b27c1cc370675f00c8fbe0e8ef3c90522215f9d58909931c80458c7fa", func := "loop.example/g00942/laws.FnExactIsCounterState", spec := "fnExactIsCounterState", apart := false }
def FnExactIsCounterStateSaid : Prop := fnExactIsCounterStateRow.holds Try.pinned (OpenSpec.ofChange fnExactIsCounterStateSpec)

/-- ITS FALSE NEIGHBOUR: 'it returns false'. Refute it at one input. -/
def fnExactIsCounterStateWrong : ChangeSpec := { name := "fnExactIsCounterState", fn := fun _ => fun
  | [d1, d2] => { results := [.lit (.bool false)], args := [d1, d2] }
  | _ => none }
def FnExactIsCounterStateWrongFalsely : Prop := fnExactIsCounterStateRow.holds Try.pinned (OpenSpec.ofChange fnExactIsCounterStateWrong)

/-- 'laws.FnExactStepOnce': WHATEVER THE INPUT: true; the input reads as it did. -/
def fnExactStepOnceSpec : ChangeSpec := { name := "fnExactStepOnce", fn := fun _ => fun
  | [d1, d2] => { results := [.lit (.bool true)], args := [d1, d2] }
  | _ => none }
def fnExactStepOnceRow : OpenClaim := { program := "ytbcphkblieeemaa", sum := "4b32c15b27c1cc370675f00c8fbe0e8ef3c90522215f9d58909931c80458c7fa", func := "loop.example/g00942/laws.FnExactStepOnce", spec := "fnExactStepOnce", apart := false }
def FnExactStepOnceSaid : Prop := fnExactStepOnceRow.holds Try.pinned (OpenSpec.ofChange fnExactStepOnceSpec)

/-- ITS FALSE NEIGHBOUR: 'it returns false'. Refute it at one input. -/
def fnExactStepOnceWrong : ChangeSpec := { name := "fnExactStepOnce", fn := fun _ => fun
  | [d1, d2] => { results := [.lit (.bool false)], args := [d1, d2] }
  | _ => none }
def FnExactStepOnceWrongFalsely : Prop := fnExactStepOnceRow.holds Try.pinned (OpenSpec.ofChange fnExactStepOnceWrong)

/-- 'laws.FnExactRunSteps': WHATEVER THE INPUT: true; the input reads as it did. -/
def fnExactRunStepsSpec : ChangeSpec := { name := "fnExactRunSteps", fn := fun _ => fun
  | [d1, d2, d3] => { results := [.lit (.bool true)], args := [d1, d2, d3] }
  | _ => none }
def fnExactRunStepsRow : OpenClaim := { program := "ytbcphkblieeemaa", sum := "4b32c15b27c1cc370675f00c8fbe0e8ef3c90522215f9d58909931c80458c7fa", func := "loop.example/g00942/laws.FnExactRunSteps", spec := "fnExactRunSteps", apart := false }
def FnExactRunStepsSaid : Prop := fnExactRunStepsRow.holds Try.pinned (OpenSpec.ofChange fnExactRunStepsSpec)

/-- ITS FALSE NEIGHBOUR: 'it returns false'. Refute it at one input. -/
def fnExactRunStepsWrong : ChangeSpec := { name := "fnExactRunSteps", fn := fun _ => fun
  | [d1, d2, d3] => { results := [.lit (.bool false)], args := [d1, d2, d3] }
  | _ => none }
def FnExactRunStepsWrongFalsely : Prop := fnExactRunStepsRow.holds Try.pinned (OpenSpec.ofChange fnExactRunStepsWrong)

/-- 'laws.FnExactHaltsAfter': WHATEVER THE INPUT: true; the input reads as it did. -/
def fnExactHaltsAfterSpec : ChangeSpec := { name := "fnExactHaltsAfter", fn := fun _ => fun
  | [d1, d2, d3] => { results := [.lit (.bool true)], args := [d1, d2, d3] }
  | _ => none }
def fnExactHaltsAfterRow : OpenClaim := { program := "ytbcphkblieeemaa", sum := "4b32c15b27c1cc370675f00c8fbe0e8ef3c90522215f9d58909931c80458c7fa", func := "loop.example/g00942/laws.FnExactHaltsAfter", spec := "fnExactHaltsAfter", apart := false }
def FnExactHaltsAfterSaid : Prop := fnExactHaltsAfterRow.holds Try.pinned (OpenSpec.ofChange fnExactHaltsAfterSpec)

/-- ITS FALSE NEIGHBOUR: 'it returns false'. Refute it at one input. -/
def fnExactHaltsAfterWrong : ChangeSpec := { name := "fnExactHaltsAfter", fn := fun _ => fun
  | [d1, d2, d3] => { results := [.lit (.bool false)], args := [d1, d2, d3] }
  | _ => none }
def FnExactHaltsAfterWrongFalsely : Prop := fnExactHaltsAfterRow.holds Try.pinned (OpenSpec.ofChange fnExactHaltsAfterWrong)

/-- 'laws.FnExactGreatestValues': WHATEVER THE INPUT: true; the input reads as it did. -/
def fnExactGreatestValuesSpec : ChangeSpec := { name := "fnExactGreatestValues", fn := fun _ => fun
  | [d1, d2, d3] => { results := [.lit (.bool true)], args := [d1, d2, d3] }
  | _ => none }
def fnExactGreatestValuesRow : OpenClaim := { program := "ytbcphkblieeemaa", sum := "4b32c15b27c1cc370675f00c8fbe0e8ef3c90522215f9d58909931c80458c7fa", func := "loop.example/g00942/laws.FnExactGreatestValues", spec := "fnExactGreatestValues", apart := false }
def FnExactGreatestValuesSaid : Prop := fnExactGreatestValuesRow.holds Try.pinned (OpenSpec.ofChange fnExactGreatestValuesSpec)

/-- ITS FALSE NEIGHBOUR: 'it returns false'. Refute it at one input. -/
def fnExactGreatestValuesWrong : ChangeSpec := { name := "fnExactGreatestValues", fn := fun _ => fun
  | [d1, d2, d3] => { results := [.lit (.bool false)], args := [d1, d2, d3] }
  | _ => none }
def FnExactGreatestValuesWrongFalsely : Prop := fnExactGreatestValuesRow.holds Try.pinned (OpenSpec.ofChange fnExactGreatestValuesWrong)

/-- 'laws.FnExactLinesUsed': WHATEVER THE INPUT: true; the input reads as it did. -/
def fnExactLinesUsedSpec : ChangeSpec := { name := "fnExactLinesUsed", fn := fun _ => fun
  | [d1, d2, d3] => { results := [.lit (.bool true)], args := [d1, d2, d3] }
  | _ => none }
def fnExactLinesUsedRow : OpenClaim := { program := "ytbcphkblieeemaa", sum := "4b32c15b27c1cc370675f00c8fbe0e8ef3c90522215f9d58909931c80458c7fa", func := "loop.example/g00942/laws.FnExactLinesUsed", spec := "fnExactLinesUsed", apart := false }
def FnExactLinesUsedSaid : Prop := fnExactLinesUsedRow.holds Try.pinned (OpenSpec.ofChange fnExactLinesUsedSpec)

/-- ITS FALSE NEIGHBOUR: 'it returns false'. Refute it at one input. -/
def fnExactLinesUsedWrong : ChangeSpec := { name := "fnExactLinesUsed", fn := fun _ => fun
  | [d1, d2, d3] => { results := [.lit (.bool false)], args := [d1, d2, d3] }
  | _ => none }
def FnExactLinesUsedWrongFalsely : Prop := fnExactLinesUsedRow.holds Try.pinned (OpenSpec.ofChange fnExactLinesUsedWrong)

/-- 'laws.FnExactGrowsFrom': WHATEVER THE INPUT: true; the input reads as it did. -/
def fnExactGrowsFromSpec : ChangeSpec := { name := "fnExactGrowsFrom", fn := fun _ => fun
  | [d1, d2, d3] => { results := [.lit (.bool true)], args := [d1, d2, d3] }
  | _ => none }
def fnExactGrowsFromRow : OpenClaim := { program := "ytbcphkblieeemaa", sum := "4b32c15b27c1cc370675f00c8fbe0e8ef3c90522215f9d58909931c80458c7fa", func := "loop.example/g00942/laws.FnExactGrowsFrom", spec := "fnExactGrowsFrom", apart := false }
def FnExactGrowsFromSaid : Prop := fnExactGrowsFromRow.holds Try.pinned (OpenSpec.ofChange fnExactGrowsFromSpec)

/-- ITS FALSE NEIGHBOUR: 'it returns false'. Refute it at one input. -/
def fnExactGrowsFromWrong : ChangeSpec := { name := "fnExactGrowsFrom", fn := fun _ => fun
  | [d1, d2, d3] => { results := [.lit (.bool false)], args := [d1, d2, d3] }
  | _ => none }
def FnExactGrowsFromWrongFalsely : Prop := fnExactGrowsFromRow.holds Try.pinned (OpenSpec.ofChange fnExactGrowsFromWrong)

/-- 'laws.FnExactIsEndless': WHATEVER THE INPUT: true; the input reads as it did. -/
def fnExactIsEndlessSpec : ChangeSpec := { name := "fnExactIsEndless", fn := fun _ => fun
  | [d1, d2, d3, d4] => { results := [.lit (.bool true)], args := [d1, d2, d3, d4] }
  | _ => none }
def fnExactIsEndlessRow : OpenClaim := { program := "ytbcphkblieeemaa", sum := "4b32c15b27c1cc370675f00c8fbe0e8ef3c90522215f9d58909931c80458c7fa", func := "loop.example/g00942/laws.FnExactIsEndless", spec := "fnExactIsEndless", apart := false }
def FnExactIsEndlessSaid : Prop := fnExactIsEndlessRow.holds Try.pinned (OpenSpec.ofChange fnExactIsEndlessSpec)

/-- ITS FALSE NEIGHBOUR: 'it returns false'. Refute it at one input. -/
def fnExactIsEndlessWrong : ChangeSpec := { name := "fnExactIsEndless", fn := fun _ => fun
  | [d1, d2, d3, d4] => { results := [.lit (.bool false)], args := [d1, d2, d3, d4] }
  | _ => none }
def FnExactIsEndlessWrongFalsely : Prop := fnExactIsEndlessRow.holds Try.pinned (OpenSpec.ofChange fnExactIsEndlessWrong)

/- THE SECOND FORM. 'bulk': how many values and letters a reading holds, each counted each time it is reached (what is shared counts as often as it is met; a slice's spare places count too). A statement '..UptoSaid' is the law's where the arguments, and the package variables that the reading takes, are together of bulk at most 1048576: NARROWER than '..Said'. Prove '..Said' where nothing that the law and all that it calls make is longer than what came in: it says more and counts as full. Else prove '..UptoSaid'. A law counts once. -/
mutual
def uptoBulk {H : Type} : DataW H → Nat
  | .lit (.string bytes) => bytes.length + 1
  | .lit _ => 1
  | .nil => 1
  | .ptr d => uptoBulk d + 1
  | .slice elems spare => uptoBulkAll elems + uptoBulkAll spare + 1
  | .agg parts => uptoBulkAll parts + 1
  | .iface _ d => uptoBulk d + 1
  | .map entries => uptoBulkEntries entries + 1
  | .held _ => 1
def uptoBulkAll {H : Type} : List (DataW H) → Nat
  | [] => 0
  | d :: r => uptoBulk d + uptoBulkAll r
def uptoBulkEntries {H : Type} : List (Lit × DataW H) → Nat
  | [] => 0
  | x :: r => uptoBulkEntry x + uptoBulkEntries r
def uptoBulkEntry {H : Type} : Lit × DataW H → Nat
  | (.string bytes, d) => bytes.length + uptoBulk d + 1
  | (_, d) => uptoBulk d + 1
 end
def uptoSmall : (H : Type) → List (DataW H) → Bool := fun _ ds => decide (uptoBulkAll ds ≤ 1048576)
def OpenSpec.upto (s : _root_.Go.ChangeSpec) : _root_.Go.OpenSpec := { _root_.Go.OpenSpec.ofChange s with cond := some uptoSmall }

/-- 'laws.FnExactIsCounterState', WHERE WHAT IT READS IS OF BULK AT MOST 1048576: true; the input reads as it did. -/
def fnExactIsCounterStateUptoRow : OpenClaim := { program := "ytbcphkblieeemaa", sum := "4b32c15b27c1cc370675f00c8fbe0e8ef3c90522215f9d58909931c80458c7fa", func := "loop.example/g00942/laws.FnExactIsCounterState", spec := "fnExactIsCounterState", apart := false, narrowed := true }
def FnExactIsCounterStateUptoSaid : Prop := fnExactIsCounterStateUptoRow.holds Try.pinned (OpenSpec.upto fnExactIsCounterStateSpec)

/-- 'laws.FnExactStepOnce', WHERE WHAT IT READS IS OF BULK AT MOST 1048576: true; the input reads as it did. -/
def fnExactStepOnceUptoRow : OpenClaim := { program := "ytbcphkblieeemaa", sum := "4b32c15b27c1cc370675f00c8fbe0e8ef3c90522215f9d58909931c80458c7fa", func := "loop.example/g00942/laws.FnExactStepOnce", spec := "fnExactStepOnce", apart := false, narrowed := true }
def FnExactStepOnceUptoSaid : Prop := fnExactStepOnceUptoRow.holds Try.pinned (OpenSpec.upto fnExactStepOnceSpec)

/-- 'laws.FnExactRunSteps', WHERE WHAT IT READS IS OF BULK AT MOST 1048576: true; the input reads as it did. -/
def fnExactRunStepsUptoRow : OpenClaim := { program := "ytbcphkblieeemaa", sum := "4b32c15b27c1cc370675f00c8fbe0e8ef3c90522215f9d58909931c80458c7fa", func := "loop.example/g00942/laws.FnExactRunSteps", spec := "fnExactRunSteps", apart := false, narrowed := true }
def FnExactRunStepsUptoSaid : Prop := fnExactRunStepsUptoRow.holds Try.pinned (OpenSpec.upto fnExactRunStepsSpec)

/-- 'laws.FnExactHaltsAfter', WHERE WHAT IT READS IS OF BULK AT MOST 1048576: true; the input reads as it did. -/
def fnExactHaltsAfterUptoRow : OpenClaim := { program := "ytbcphkblieeemaa", sum := "4b32c15b27c1cc370675f00c8fbe0e8ef3c90522215f9d58909931c80458c7fa", func := "loop.example/g00942/laws.FnExactHaltsAfter", spec := "fnExactHaltsAfter", apart := false, narrowed := true }
def FnExactHaltsAfterUptoSaid : Prop := fnExactHaltsAfterUptoRow.holds Try.pinned (OpenSpec.upto fnExactHaltsAfterSpec)

/-- 'laws.FnExactGreatestValues', WHERE WHAT IT READS IS OF BULK AT MOST 1048576: true; the input reads as it did. -/
def fnExactGreatestValuesUptoRow : OpenClaim := { program := "ytbcphkblieeemaa", sum := "4b32c15b27c1cc370675f00c8fbe0e8ef3c90522215f9d58909931c80458c7fa", func := "loop.example/g00942/laws.FnExactGreatestValues", spec := "fnExactGreatestValues", apart := false, narrowed := true }
def FnExactGreatestValuesUptoSaid : Prop := fnExactGreatestValuesUptoRow.holds Try.pinned (OpenSpec.upto fnExactGreatestValuesSpec)

/-- 'laws.FnExactLinesUsed', WHERE WHAT IT READS IS OF BULK AT MOST 1048576: true; the input reads as it did. -/
def fnExactLinesUsedUptoRow : OpenClaim := { program := "ytbcphkblieeemaa", sum := "4b32c15b27c1cc370675f00c8fbe0e8ef3c90522215f9d58909931c80458c7fa", func := "loop.example/g00942/laws.FnExactLinesUsed", spec := "fnExactLinesUsed", apart := false, narrowed := true }
def FnExactLinesUsedUptoSaid : Prop := fnExactLinesUsedUptoRow.holds Try.pinned (OpenSpec.upto fnExactLinesUsedSpec)

/-- 'laws.FnExactGrowsFrom', WHERE WHAT IT READS IS OF BULK AT MOST 1048576: true; the input reads as it did. -/
def fnExactGrowsFromUptoRow : OpenClaim := { program := "ytbcphkblieeemaa", sum := "4b32c15b27c1cc370675f00c8fbe0e8ef3c90522215f9d58909931c80458c7fa", func := "loop.example/g00942/laws.FnExactGrowsFrom", spec := "fnExactGrowsFrom", apart := false, narrowed := true }
def FnExactGrowsFromUptoSaid : Prop := fnExactGrowsFromUptoRow.holds Try.pinned (OpenSpec.upto fnExactGrowsFromSpec)

/-- 'laws.FnExactIsEndless', WHERE WHAT IT READS IS OF BULK AT MOST 1048576: true; the input reads as it did. -/
def fnExactIsEndlessUptoRow : OpenClaim := { program := "ytbcphkblieeemaa", sum := "4b32c15b27c1cc370675f00c8fbe0e8ef3c90522215f9d58909931c80458c7fa", func := "loop.example/g00942/laws.FnExactIsEndless", spec := "fnExactIsEndless", apart := false, narrowed := true }
def FnExactIsEndlessUptoSaid : Prop := fnExactIsEndlessUptoRow.holds Try.pinned (OpenSpec.upto fnExactIsEndlessSpec)

end Rows
end Go.Proofs.Ytbcphkblieeemaa
