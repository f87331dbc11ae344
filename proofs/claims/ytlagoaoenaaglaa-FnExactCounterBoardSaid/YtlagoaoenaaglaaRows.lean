/-
  No cell of these rows narrows 'for every input' (looked for: loops, veiled, ifaces, maps, wideKeys, modest, calm, conditions, laid).
  DERIVED. THE GIVEN ROWS OF THIS SEAT. 6 by the template 'for every input the law returns true; each argument reads behind the call as it read before'; 0 by the template 'total and deterministic' (their statements: YtlagoaoenaaglaaTotals.lean).
  GIVEN WITH THE SEED: the statements are not yours to turn. If you find one false, say at which input.
  Laid BY PROGRAM, IN A SANDBOX (cutbox-rows.mjs): the forced cells as the released guide's own fill.sh prints them over the translation 48fd76a9ec72dd64… (all of the seat's roots in one cut). By AI agents, Wed Nov 11 2026. No macro, syntax, notation, axiom, sorry.
-/
import Derived.Test.YtlagoaoenaaglaaChecked
import GoSem.Claim
import GoSem.ClaimJoined
import GoSem.ClaimMapViews
import Derived.JoinedTies
import Derived.KernelRfl
namespace Go.Proofs.Ytlagoaoenaaglaa
/- THE CELL 'sum', in the pinned program and in every row, IS THE sha256 OF THE DUMP (.gsa) THAT YtlagoaoenaaglaaProg.lean LOADS. Nothing in Lean hashes anything: it is a label: what it is worth is what the hold of that sum in a sandbox is worth. -/
noncomputable def Try.pinned : Pinned := { name := "ytlagoaoenaaglaa", sum := "48fd76a9ec72dd648178121ae37826a65465fa6fe867930ab226da78cd9a65dd", checked := Try.checked }
namespace Rows
def none {H : Type} : Left H := { results := [], args := [] }

/-- 'laws.FnExactCounterDistance': WHATEVER THE INPUT: true; the input reads as it did. -/
def fnExactCounterDistanceSpec : ChangeSpec := { name := "fnExactCounterDistance", fn := fun _ => fun
  | [d1, d2, d3] => { results := [.lit (.bool true)], args := [d1, d2, d3] }
  | _ => none }
def fnExactCounterDistanceRow : OpenClaim := { program := "ytlagoaoenaaglaa", sum := "48fd76a9ec72dd648178121ae37826a65465fa6fe867930ab226da78cd9a65dd", func := "loop.example/g00942/laws.FnExactCounterDistance", spec := "fnExactCounterDistance", apart := false }
def FnExactCounterDistanceSaid : Prop := fnExactCounterDistanceRow.holds Try.pinned (OpenSpec.ofChange fnExactCounterDistanceSpec)

/-- ITS FALSE NEIGHBOUR: 'it returns false'. Refute it at one input. -/
def fnExactCounterDistanceWrong : ChangeSpec := { name := "fnExactCounterDistance", fn := fun _ => fun
  | [d1, d2, d3] => { results := [.lit (.bool false)], args := [d1, d2, d3] }
  | _ => none }
def FnExactCounterDistanceWrongFalsely : Prop := fnExactCounterDistanceRow.holds Try.pinned (OpenSpec.ofChange fnExactCounterDistanceWrong)

/-- 'laws.FnExactAfterMarbles': WHATEVER THE INPUT: true; the input reads as it did. -/
def fnExactAfterMarblesSpec : ChangeSpec := { name := "fnExactAfterMarbles", fn := fun _ => fun
  | [d1, d2, d3] => { results := [.lit (.bool true)], args := [d1, d2, d3] }
  | _ => none }
def fnExactAfterMarblesRow : OpenClaim := { program := "ytlagoaoenaaglaa", sum := "48fd76a9ec72dd648178121ae37826a65465fa6fe867930ab226da78cd9a65dd", func := "loop.example/g00942/laws.FnExactAfterMarbles", spec := "fnExactAfterMarbles", apart := false }
def FnExactAfterMarblesSaid : Prop := fnExactAfterMarblesRow.holds Try.pinned (OpenSpec.ofChange fnExactAfterMarblesSpec)

/-- ITS FALSE NEIGHBOUR: 'it returns false'. Refute it at one input. -/
def fnExactAfterMarblesWrong : ChangeSpec := { name := "fnExactAfterMarbles", fn := fun _ => fun
  | [d1, d2, d3] => { results := [.lit (.bool false)], args := [d1, d2, d3] }
  | _ => none }
def FnExactAfterMarblesWrongFalsely : Prop := fnExactAfterMarblesRow.holds Try.pinned (OpenSpec.ofChange fnExactAfterMarblesWrong)

/-- 'laws.FnExactAreInstructions': WHATEVER THE INPUT: true; the input reads as it did. -/
def fnExactAreInstructionsSpec : ChangeSpec := { name := "fnExactAreInstructions", fn := fun _ => fun
  | [d1, d2] => { results := [.lit (.bool true)], args := [d1, d2] }
  | _ => none }
def fnExactAreInstructionsRow : OpenClaim := { program := "ytlagoaoenaaglaa", sum := "48fd76a9ec72dd648178121ae37826a65465fa6fe867930ab226da78cd9a65dd", func := "loop.example/g00942/laws.FnExactAreInstructions", spec := "fnExactAreInstructions", apart := false }
def FnExactAreInstructionsSaid : Prop := fnExactAreInstructionsRow.holds Try.pinned (OpenSpec.ofChange fnExactAreInstructionsSpec)

/-- ITS FALSE NEIGHBOUR: 'it returns false'. Refute it at one input. -/
def fnExactAreInstructionsWrong : ChangeSpec := { name := "fnExactAreInstructions", fn := fun _ => fun
  | [d1, d2] => { results := [.lit (.bool false)], args := [d1, d2] }
  | _ => none }
def FnExactAreInstructionsWrongFalsely : Prop := fnExactAreInstructionsRow.holds Try.pinned (OpenSpec.ofChange fnExactAreInstructionsWrong)

/-- 'laws.FnExactCountingBoard': WHATEVER THE INPUT: true; the input reads as it did. -/
def fnExactCountingBoardSpec : ChangeSpec := { name := "fnExactCountingBoard", fn := fun _ => fun
  | [d] => { results := [.lit (.bool true)], args := [d] }
  | _ => none }
def fnExactCountingBoardRow : OpenClaim := { program := "ytlagoaoenaaglaa", sum := "48fd76a9ec72dd648178121ae37826a65465fa6fe867930ab226da78cd9a65dd", func := "loop.example/g00942/laws.FnExactCountingBoard", spec := "fnExactCountingBoard", apart := false }
def FnExactCountingBoardSaid : Prop := fnExactCountingBoardRow.holds Try.pinned (OpenSpec.ofChange fnExactCountingBoardSpec)

/-- ITS FALSE NEIGHBOUR: 'it returns false'. Refute it at one input. -/
def fnExactCountingBoardWrong : ChangeSpec := { name := "fnExactCountingBoard", fn := fun _ => fun
  | [d] => { results := [.lit (.bool false)], args := [d] }
  | _ => none }
def FnExactCountingBoardWrongFalsely : Prop := fnExactCountingBoardRow.holds Try.pinned (OpenSpec.ofChange fnExactCountingBoardWrong)

/-- 'laws.FnExactCounterBoard': WHATEVER THE INPUT: true; the input reads as it did. -/
def fnExactCounterBoardSpec : ChangeSpec := { name := "fnExactCounterBoard", fn := fun _ => fun
  | [d1, d2] => { results := [.lit (.bool true)], args := [d1, d2] }
  | _ => none }
def fnExactCounterBoardRow : OpenClaim := { program := "ytlagoaoenaaglaa", sum := "48fd76a9ec72dd648178121ae37826a65465fa6fe867930ab226da78cd9a65dd", func := "loop.example/g00942/laws.FnExactCounterBoard", spec := "fnExactCounterBoard", apart := false }
def FnExactCounterBoardSaid : Prop := fnExactCounterBoardRow.holds Try.pinned (OpenSpec.ofChange fnExactCounterBoardSpec)

/-- ITS FALSE NEIGHBOUR: 'it returns false'. Refute it at one input. -/
def fnExactCounterBoardWrong : ChangeSpec := { name := "fnExactCounterBoard", fn := fun _ => fun
  | [d1, d2] => { results := [.lit (.bool false)], args := [d1, d2] }
  | _ => none }
def FnExactCounterBoardWrongFalsely : Prop := fnExactCounterBoardRow.holds Try.pinned (OpenSpec.ofChange fnExactCounterBoardWrong)

/-- 'laws.FnExactPartCount': WHATEVER THE INPUT: true; the input reads as it did. -/
def fnExactPartCountSpec : ChangeSpec := { name := "fnExactPartCount", fn := fun _ => fun
  | [d] => { results := [.lit (.bool true)], args := [d] }
  | _ => none }
def fnExactPartCountRow : OpenClaim := { program := "ytlagoaoenaaglaa", sum := "48fd76a9ec72dd648178121ae37826a65465fa6fe867930ab226da78cd9a65dd", func := "loop.example/g00942/laws.FnExactPartCount", spec := "fnExactPartCount", apart := false }
def FnExactPartCountSaid : Prop := fnExactPartCountRow.holds Try.pinned (OpenSpec.ofChange fnExactPartCountSpec)

/-- ITS FALSE NEIGHBOUR: 'it returns false'. Refute it at one input. -/
def fnExactPartCountWrong : ChangeSpec := { name := "fnExactPartCount", fn := fun _ => fun
  | [d] => { results := [.lit (.bool false)], args := [d] }
  | _ => none }
def FnExactPartCountWrongFalsely : Prop := fnExactPartCountRow.holds Try.pinned (OpenSpec.ofChange fnExactPartCountWrong)

/- THE SECOND FORM. 'bulk': how many values and letters a reading holds, each counted each time it is reached (what is shared counts as often as it is met; a slice's spare places count too). A statement '..UptoSaid' is the law's where the arguments, and the package variables that the reading takes, are together of bulk at most 1048576: NARROWER than '..Said'. Prove '..Said' where nothing that the law and all that it calls make is longer than what came in: it says more and counts as full. Else prove '..UptoSaid'. A law counts once. -/
mutual
def uptoBulk {H : Type} : DataW H → Nat
  | .lit (.string bytes) => bytes.length + 1
  | .lit _ => 1
  | .nil => 1
  | .ptr d => uptoBulk d + 1
  | .slice elems spare => uptoBulkAll elems + uptoBulkAll spare + 1
  | .agg parts => uptoBulkAll parts + 1
  | .iface _ d => uptoBulk d + 1
  | .map entries => uptoBulkEntries entries + 1
  | .held _ => 1
def uptoBulkAll {H : Type} : List (DataW H) → Nat
  | [] => 0
  | d :: r => uptoBulk d + uptoBulkAll r
def uptoBulkEntries {H : Type} : List (Lit × DataW H) → Nat
  | [] => 0
  | x :: r => uptoBulkEntry x + uptoBulkEntries r
def uptoBulkEntry {H : Type} : Lit × DataW H → Nat
  | (.string bytes, d) => bytes.length + uptoBulk d + 1
  | (_, d) => uptoBulk d + 1
 end
def uptoSmall : (H : Type) → List (DataW H) → Bool := fun _ ds => decide (uptoBulkAll ds ≤ 1048576)
def OpenSpec.upto (s : _root_.Go.ChangeSpec) : _root_.Go.OpenSpec := { _root_.Go.OpenSpec.ofChange s with cond := some uptoSmall }

/-- 'laws.FnExactCounterDistance', WHERE WHAT IT READS IS OF BULK AT MOST 1048576: true; the input reads as it did. -/
def fnExactCounterDistanceUptoRow : OpenClaim := { program := "ytlagoaoenaaglaa", sum := "48fd76a9ec72dd648178121ae37826a65465fa6fe867930ab226da78cd9a65dd", func := "loop.example/g00942/laws.FnExactCounterDistance", spec := "fnExactCounterDistance", apart := false, narrowed := true }
def FnExactCounterDistanceUptoSaid : Prop := fnExactCounterDistanceUptoRow.holds Try.pinned (OpenSpec.upto fnExactCounterDistanceSpec)

/-- 'laws.FnExactAfterMarbles', WHERE WHAT IT READS IS OF BULK AT MOST 1048576: true; the input reads as it did. -/
def fnExactAfterMarblesUptoRow : OpenClaim := { program := "ytlagoaoenaaglaa", sum := "48fd76a9ec72dd648178121ae37826a65465fa6fe867930ab226da78cd9a65dd", func := "loop.example/g00942/laws.FnExactAfterMarbles", spec := "fnExactAfterMarbles", apart := false, narrowed := true }
def FnExactAfterMarblesUptoSaid : Prop := fnExactAfterMarblesUptoRow.holds Try.pinned (OpenSpec.upto fnExactAfterMarblesSpec)

/-- 'laws.FnExactAreInstructions', WHERE WHAT IT READS IS OF BULK AT MOST 1048576: true; the input reads as it did. -/
def fnExactAreInstructionsUptoRow : OpenClaim := { program := "ytlagoaoenaaglaa", sum := "48fd76a9ec72dd648178121ae37826a65465fa6fe867930ab226da78cd9a65dd", func := "loop.example/g00942/laws.FnExactAreInstructions", spec := "fnExactAreInstructions", apart := false, narrowed := true }
def FnExactAreInstructionsUptoSaid : Prop := fnExactAreInstructionsUptoRow.holds Try.pinned (OpenSpec.upto fnExactAreInstructionsSpec)

/-- 'laws.FnExactCountingBoard', WHERE WHAT IT READS IS OF BULK AT MOST 1048576: true; the input reads as it did. -/
def fnExactCountingBoardUptoRow : OpenClaim := { program := "ytlagoaoenaaglaa", sum := "48fd76a9ec72dd648178121ae37826a65465fa6fe867930ab226da78cd9a65dd", func := "loop.example/g00942/laws.FnExactCountingBoard", spec := "fnExactCountingBoard", apart := false, narrowed := true }
def FnExactCountingBoardUptoSaid : Prop := fnExactCountingBoardUptoRow.holds Try.pinned (OpenSpec.upto fnExactCountingBoardSpec)

/-- 'laws.FnExactCounterBoard', WHERE WHAT IT READS IS OF BULK AT MOST 1048576: true; the input reads as it did. -/
def fnExactCounterBoardUptoRow : OpenClaim := { program := "ytlagoaoenaaglaa", sum := "48fd76a9ec72dd648178121ae37826a65465fa6fe867930ab226da78cd9a65dd", func := "loop.example/g00942/laws.FnExactCounterBoard", spec := "fnExactCounterBoard", apart := false, narrowed := true }
def FnExactCounterBoardUptoSaid : Prop := fnExactCounterBoardUptoRow.holds Try.pinned (OpenSpec.upto fnExactCounterBoardSpec)

/-- 'laws.FnExactPartCount', WHERE WHAT IT READS IS OF BULK AT MOST 1048576: true; the input reads as it did. -/
def fnExactPartCountUptoRow : OpenClaim := { program := "ytlagoaoenaaglaa", sum := "48fd76a9ec72dd648178121ae37826a65465fa6fe867930ab226da78cd9a65dd", func := "loop.example/g00942/laws.FnExactPartCount", spec := "fnExactPartCount", apart := false, narrowed := true }
def FnExactPartCountUptoSaid : Prop := fnExactPartCountUptoRow.holds Try.pinned (OpenSpec.upto fnExactPartCountSpec)

end Rows
end Go.Proofs.Ytlagoaoenaaglaa
