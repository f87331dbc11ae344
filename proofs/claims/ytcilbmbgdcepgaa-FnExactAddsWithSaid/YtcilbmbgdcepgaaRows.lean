/-
  No cell of these rows narrows 'for every input' (looked for: loops, veiled, ifaces, maps, wideKeys, modest, calm, conditions, laid).
  DERIVED. THE GIVEN ROWS OF THIS SEAT. 10 by the template 'for every input the law returns true; each argument reads behind the call as it read before'; 0 by the template 'total and deterministic' (their statements: YtcilbmbgdcepgaaTotals.lean).
  GIVEN WITH THE SEED: the statements are not yours to turn. If you find one false, say at which input.
  Laid BY PROGRAM, IN A SANDBOX (cutbox-rows.mjs): the forced cells as the released guide's own fill.sh prints them over the translation 16a75a744be69918… (all of the seat's roots in one cut). By AI agents, Wed Nov 11 2026. No macro, syntax, notation, axiom, sorry.
-/
import Derived.Test.YtcilbmbgdcepgaaChecked
import GoSem.Claim
import GoSem.ClaimJoined
import GoSem.ClaimMapViews
import Derived.JoinedTies
import Derived.KernelRfl
namespace Go.Proofs.Ytcilbmbgdcepgaa
/- THE CELL 'sum', in the pinned program and in every row, IS THE sha256 OF THE DUMP (.gsa) THAT YtcilbmbgdcepgaaProg.lean LOADS. Nothing in Lean hashes anything: it is a label: what it is worth is what the hold of that sum in a sandbox is worth. -/
noncomputable def Try.pinned : Pinned := { name := "ytcilbmbgdcepgaa", sum := "16a75a744be69918a62a6e6d540b8b61cbaa126f378e7b120b71907dfa6500ab", checked := Try.checked }
namespace Rows
def none {H : Type} : Left H := { results := [], args := [] }

/-- 'laws.FnExactCountersBeside': WHATEVER THE INPUT: true; the input reads as it did. -/
def fnExactCountersBesideSpec : ChangeSpec := { name := "fnExactCountersBeside", fn := fun _ => fun
  | [d1, d2, d3] => { results := [.lit (.bool true)], args := [d1, d2, d3] }
  | _ => none }
def fnExactCountersBesideRow : OpenClaim := { program := "ytcilbmbgdcepgaa", sum := "16a75a744be69918a62a6e6d540b8b61cbaa126f378e7b120b71907dfa6500ab", func := "loop.example/g00942/laws.FnExactCountersBeside", spec := "fnExactCountersBeside", apart := false }
def FnExactCountersBesideSaid : Prop := fnExactCountersBesideRow.holds Try.pinned (OpenSpec.ofChange fnExactCountersBesideSpec)

/-- ITS FALSE NEIGHBOUR: 'it returns false'. Refute it at one input. -/
def fnExactCountersBesideWrong : ChangeSpec := { name := "fnExactCountersBeside", fn := fun _ => fun
  | [d1, d2, d3] => { results := [.lit (.bool false)], args := [d1, d2, d3] }
  | _ => none }
def FnExactCountersBesideWrongFalsely : Prop := fnExactCountersBesideRow.holds Try.pinned (OpenSpec.ofChange fnExactCountersBesideWrong)

/-- 'laws.FnExactIsCounter': WHATEVER THE INPUT: true; the input reads as it did. -/
def fnExactIsCounterSpec : ChangeSpec := { name := "fnExactIsCounter", fn := fun _ => fun
  | [d] => { results := [.lit (.bool true)], args := [d] }
  | _ => none }
def fnExactIsCounterRow : OpenClaim := { program := "ytcilbmbgdcepgaa", sum := "16a75a744be69918a62a6e6d540b8b61cbaa126f378e7b120b71907dfa6500ab", func := "loop.example/g00942/laws.FnExactIsCounter", spec := "fnExactIsCounter", apart := false }
def FnExactIsCounterSaid : Prop := fnExactIsCounterRow.holds Try.pinned (OpenSpec.ofChange fnExactIsCounterSpec)

/-- ITS FALSE NEIGHBOUR: 'it returns false'. Refute it at one input. -/
def fnExactIsCounterWrong : ChangeSpec := { name := "fnExactIsCounter", fn := fun _ => fun
  | [d] => { results := [.lit (.bool false)], args := [d] }
  | _ => none }
def FnExactIsCounterWrongFalsely : Prop := fnExactIsCounterRow.holds Try.pinned (OpenSpec.ofChange fnExactIsCounterWrong)

/-- 'laws.FnExactCounterValue': WHATEVER THE INPUT: true; the input reads as it did. -/
def fnExactCounterValueSpec : ChangeSpec := { name := "fnExactCounterValue", fn := fun _ => fun
  | [d] => { results := [.lit (.bool true)], args := [d] }
  | _ => none }
def fnExactCounterValueRow : OpenClaim := { program := "ytcilbmbgdcepgaa", sum := "16a75a744be69918a62a6e6d540b8b61cbaa126f378e7b120b71907dfa6500ab", func := "loop.example/g00942/laws.FnExactCounterValue", spec := "fnExactCounterValue", apart := false }
def FnExactCounterValueSaid : Prop := fnExactCounterValueRow.holds Try.pinned (OpenSpec.ofChange fnExactCounterValueSpec)

/-- ITS FALSE NEIGHBOUR: 'it returns false'. Refute it at one input. -/
def fnExactCounterValueWrong : ChangeSpec := { name := "fnExactCounterValue", fn := fun _ => fun
  | [d] => { results := [.lit (.bool false)], args := [d] }
  | _ => none }
def FnExactCounterValueWrongFalsely : Prop := fnExactCounterValueRow.holds Try.pinned (OpenSpec.ofChange fnExactCounterValueWrong)

/-- 'laws.FnExactBitsValue': WHATEVER THE INPUT: true; the input reads as it did. -/
def fnExactBitsValueSpec : ChangeSpec := { name := "fnExactBitsValue", fn := fun _ => fun
  | [d1, d2] => { results := [.lit (.bool true)], args := [d1, d2] }
  | _ => none }
def fnExactBitsValueRow : OpenClaim := { program := "ytcilbmbgdcepgaa", sum := "16a75a744be69918a62a6e6d540b8b61cbaa126f378e7b120b71907dfa6500ab", func := "loop.example/g00942/laws.FnExactBitsValue", spec := "fnExactBitsValue", apart := false }
def FnExactBitsValueSaid : Prop := fnExactBitsValueRow.holds Try.pinned (OpenSpec.ofChange fnExactBitsValueSpec)

/-- ITS FALSE NEIGHBOUR: 'it returns false'. Refute it at one input. -/
def fnExactBitsValueWrong : ChangeSpec := { name := "fnExactBitsValue", fn := fun _ => fun
  | [d1, d2] => { results := [.lit (.bool false)], args := [d1, d2] }
  | _ => none }
def FnExactBitsValueWrongFalsely : Prop := fnExactBitsValueRow.holds Try.pinned (OpenSpec.ofChange fnExactBitsValueWrong)

/-- 'laws.FnExactWithBitsValue': WHATEVER THE INPUT: true; the input reads as it did. -/
def fnExactWithBitsValueSpec : ChangeSpec := { name := "fnExactWithBitsValue", fn := fun _ => fun
  | [d1, d2, d3] => { results := [.lit (.bool true)], args := [d1, d2, d3] }
  | _ => none }
def fnExactWithBitsValueRow : OpenClaim := { program := "ytcilbmbgdcepgaa", sum := "16a75a744be69918a62a6e6d540b8b61cbaa126f378e7b120b71907dfa6500ab", func := "loop.example/g00942/laws.FnExactWithBitsValue", spec := "fnExactWithBitsValue", apart := false }
def FnExactWithBitsValueSaid : Prop := fnExactWithBitsValueRow.holds Try.pinned (OpenSpec.ofChange fnExactWithBitsValueSpec)

/-- ITS FALSE NEIGHBOUR: 'it returns false'. Refute it at one input. -/
def fnExactWithBitsValueWrong : ChangeSpec := { name := "fnExactWithBitsValue", fn := fun _ => fun
  | [d1, d2, d3] => { results := [.lit (.bool false)], args := [d1, d2, d3] }
  | _ => none }
def FnExactWithBitsValueWrongFalsely : Prop := fnExactWithBitsValueRow.holds Try.pinned (OpenSpec.ofChange fnExactWithBitsValueWrong)

/-- 'laws.FnExactSetInputs': WHATEVER THE INPUT: true; the input reads as it did. -/
def fnExactSetInputsSpec : ChangeSpec := { name := "fnExactSetInputs", fn := fun _ => fun
  | [d1, d2] => { results := [.lit (.bool true)], args := [d1, d2] }
  | _ => none }
def fnExactSetInputsRow : OpenClaim := { program := "ytcilbmbgdcepgaa", sum := "16a75a744be69918a62a6e6d540b8b61cbaa126f378e7b120b71907dfa6500ab", func := "loop.example/g00942/laws.FnExactSetInputs", spec := "fnExactSetInputs", apart := false }
def FnExactSetInputsSaid : Prop := fnExactSetInputsRow.holds Try.pinned (OpenSpec.ofChange fnExactSetInputsSpec)

/-- ITS FALSE NEIGHBOUR: 'it returns false'. Refute it at one input. -/
def fnExactSetInputsWrong : ChangeSpec := { name := "fnExactSetInputs", fn := fun _ => fun
  | [d1, d2] => { results := [.lit (.bool false)], args := [d1, d2] }
  | _ => none }
def FnExactSetInputsWrongFalsely : Prop := fnExactSetInputsRow.holds Try.pinned (OpenSpec.ofChange fnExactSetInputsWrong)

/-- 'laws.FnExactReadEntry': WHATEVER THE INPUT: true; the input reads as it did. -/
def fnExactReadEntrySpec : ChangeSpec := { name := "fnExactReadEntry", fn := fun _ => fun
  | [d1, d2, d3] => { results := [.lit (.bool true)], args := [d1, d2, d3] }
  | _ => none }
def fnExactReadEntryRow : OpenClaim := { program := "ytcilbmbgdcepgaa", sum := "16a75a744be69918a62a6e6d540b8b61cbaa126f378e7b120b71907dfa6500ab", func := "loop.example/g00942/laws.FnExactReadEntry", spec := "fnExactReadEntry", apart := false }
def FnExactReadEntrySaid : Prop := fnExactReadEntryRow.holds Try.pinned (OpenSpec.ofChange fnExactReadEntrySpec)

/-- ITS FALSE NEIGHBOUR: 'it returns false'. Refute it at one input. -/
def fnExactReadEntryWrong : ChangeSpec := { name := "fnExactReadEntry", fn := fun _ => fun
  | [d1, d2, d3] => { results := [.lit (.bool false)], args := [d1, d2, d3] }
  | _ => none }
def FnExactReadEntryWrongFalsely : Prop := fnExactReadEntryRow.holds Try.pinned (OpenSpec.ofChange fnExactReadEntryWrong)

/-- 'laws.FnExactTableOfBoard': WHATEVER THE INPUT: true; the input reads as it did. -/
def fnExactTableOfBoardSpec : ChangeSpec := { name := "fnExactTableOfBoard", fn := fun _ => fun
  | [d1, d2, d3] => { results := [.lit (.bool true)], args := [d1, d2, d3] }
  | _ => none }
def fnExactTableOfBoardRow : OpenClaim := { program := "ytcilbmbgdcepgaa", sum := "16a75a744be69918a62a6e6d540b8b61cbaa126f378e7b120b71907dfa6500ab", func := "loop.example/g00942/laws.FnExactTableOfBoard", spec := "fnExactTableOfBoard", apart := false }
def FnExactTableOfBoardSaid : Prop := fnExactTableOfBoardRow.holds Try.pinned (OpenSpec.ofChange fnExactTableOfBoardSpec)

/-- ITS FALSE NEIGHBOUR: 'it returns false'. Refute it at one input. -/
def fnExactTableOfBoardWrong : ChangeSpec := { name := "fnExactTableOfBoard", fn := fun _ => fun
  | [d1, d2, d3] => { results := [.lit (.bool false)], args := [d1, d2, d3] }
  | _ => none }
def FnExactTableOfBoardWrongFalsely : Prop := fnExactTableOfBoardRow.holds Try.pinned (OpenSpec.ofChange fnExactTableOfBoardWrong)

/-- 'laws.FnExactAddsWith': WHATEVER THE INPUT: true; the input reads as it did. -/
def fnExactAddsWithSpec : ChangeSpec := { name := "fnExactAddsWith", fn := fun _ => fun
  | [d1, d2, d3] => { results := [.lit (.bool true)], args := [d1, d2, d3] }
  | _ => none }
def fnExactAddsWithRow : OpenClaim := { program := "ytcilbmbgdcepgaa", sum := "16a75a744be69918a62a6e6d540b8b61cbaa126f378e7b120b71907dfa6500ab", func := "loop.example/g00942/laws.FnExactAddsWith", spec := "fnExactAddsWith", apart := false }
def FnExactAddsWithSaid : Prop := fnExactAddsWithRow.holds Try.pinned (OpenSpec.ofChange fnExactAddsWithSpec)

/-- ITS FALSE NEIGHBOUR: 'it returns false'. Refute it at one input. -/
def fnExactAddsWithWrong : ChangeSpec := { name := "fnExactAddsWith", fn := fun _ => fun
  | [d1, d2, d3] => { results := [.lit (.bool false)], args := [d1, d2, d3] }
  | _ => none }
def FnExactAddsWithWrongFalsely : Prop := fnExactAddsWithRow.holds Try.pinned (OpenSpec.ofChange fnExactAddsWithWrong)

/-- 'laws.FnExactCarryBoard': WHATEVER THE INPUT: true; the input reads as it did. -/
def fnExactCarryBoardSpec : ChangeSpec := { name := "fnExactCarryBoard", fn := fun _ => fun
  | [d1, d2, d3] => { results := [.lit (.bool true)], args := [d1, d2, d3] }
  | _ => none }
def fnExactCarryBoardRow : OpenClaim := { program := "ytcilbmbgdcepgaa", sum := "16a75a744be69918a62a6e6d540b8b61cbaa126f378e7b120b71907dfa6500ab", func := "loop.example/g00942/laws.FnExactCarryBoard", spec := "fnExactCarryBoard", apart := false }
def FnExactCarryBoardSaid : Prop := fnExactCarryBoardRow.holds Try.pinned (OpenSpec.ofChange fnExactCarryBoardSpec)

/-- ITS FALSE NEIGHBOUR: 'it returns false'. Refute it at one input. -/
def fnExactCarryBoardWrong : ChangeSpec := { name := "fnExactCarryBoard", fn := fun _ => fun
  | [d1, d2, d3] => { results := [.lit (.bool false)], args := [d1, d2, d3] }
  | _ => none }
def FnExactCarryBoardWrongFalsely : Prop := fnExactCarryBoardRow.holds Try.pinned (OpenSpec.ofChange fnExactCarryBoardWrong)

/- THE SECOND FORM. 'bulk': how many values and letters a reading holds, each counted each time it is reached (what is shared counts as often as it is met; a slice's spare places count too). A statement '..UptoSaid' is the law's where the arguments, and the package variables that the reading takes, are together of bulk at most 1048576: NARROWER than '..Said'. Prove '..Said' where nothing that the law and all that it calls make is longer than what came in: it says more and counts as full. Else prove '..UptoSaid'. A law counts once. -/
mutual
def uptoBulk {H : Type} : DataW H → Nat
  | .lit (.string bytes) => bytes.length + 1
  | .lit _ => 1
  | .nil => 1
  | .ptr d => uptoBulk d + 1
  | .slice elems spare => uptoBulkAll elems + uptoBulkAll spare + 1
  | .agg parts => uptoBulkAll parts + 1
  | .iface _ d => uptoBulk d + 1
  | .map entries => uptoBulkEntries entries + 1
  | .held _ => 1
def uptoBulkAll {H : Type} : List (DataW H) → Nat
  | [] => 0
  | d :: r => uptoBulk d + uptoBulkAll r
def uptoBulkEntries {H : Type} : List (Lit × DataW H) → Nat
  | [] => 0
  | x :: r => uptoBulkEntry x + uptoBulkEntries r
def uptoBulkEntry {H : Type} : Lit × DataW H → Nat
  | (.string bytes, d) => bytes.length + uptoBulk d + 1
  | (_, d) => uptoBulk d + 1
 end
def uptoSmall : (H : Type) → List (DataW H) → Bool := fun _ ds => decide (uptoBulkAll ds ≤ 1048576)
def OpenSpec.upto (s : _root_.Go.ChangeSpec) : _root_.Go.OpenSpec := { _root_.Go.OpenSpec.ofChange s with cond := some uptoSmall }

/-- 'laws.FnExactCountersBeside', WHERE WHAT IT READS IS OF BULK AT MOST 1048576: true; the input reads as it did. -/
def fnExactCountersBesideUptoRow : OpenClaim := { program := "ytcilbmbgdcepgaa", sum := "16a75a744be69918a62a6e6d540b8b61cbaa126f378e7b120b71907dfa6500ab", func := "loop.example/g00942/laws.FnExactCountersBeside", spec := "fnExactCountersBeside", apart := false, narrowed := true }
def FnExactCountersBesideUptoSaid : Prop := fnExactCountersBesideUptoRow.holds Try.pinned (OpenSpec.upto fnExactCountersBesideSpec)

/-- 'laws.FnExactIsCounter', WHERE WHAT IT READS IS OF BULK AT MOST 1048576: true; the input reads as it did. -/
def fnExactIsCounterUptoRow : OpenClaim := { program := "ytcilbmbgdcepgaa", sum := "16a75a744be69918a62a6e6d540b8b61cbaa126f378e7b120b71907dfa6500ab", func := "loop.example/g00942/laws.FnExactIsCounter", spec := "fnExactIsCounter", apart := false, narrowed := true }
def FnExactIsCounterUptoSaid : Prop := fnExactIsCounterUptoRow.holds Try.pinned (OpenSpec.upto fnExactIsCounterSpec)

/-- 'laws.FnExactCounterValue', WHERE WHAT IT READS IS OF BULK AT MOST 1048576: true; the input reads as it did. -/
def fnExactCounterValueUptoRow : OpenClaim := { program := "ytcilbmbgdcepgaa", sum := "16a75a744be69918a62a6e6d540b8b61cbaa126f378e7b120b71907dfa6500ab", func := "loop.example/g00942/laws.FnExactCounterValue", spec := "fnExactCounterValue", apart := false, narrowed := true }
def FnExactCounterValueUptoSaid : Prop := fnExactCounterValueUptoRow.holds Try.pinned (OpenSpec.upto fnExactCounterValueSpec)

/-- 'laws.FnExactBitsValue', WHERE WHAT IT READS IS OF BULK AT MOST 1048576: true; the input reads as it did. -/
def fnExactBitsValueUptoRow : OpenClaim := { program := "ytcilbmbgdcepgaa", sum := "16a75a744be69918a62a6e6d540b8b61cbaa126f378e7b120b71907dfa6500ab", func := "loop.example/g00942/laws.FnExactBitsValue", spec := "fnExactBitsValue", apart := false, narrowed := true }
def FnExactBitsValueUptoSaid : Prop := fnExactBitsValueUptoRow.holds Try.pinned (OpenSpec.upto fnExactBitsValueSpec)

/-- 'laws.FnExactWithBitsValue', WHERE WHAT IT READS IS OF BULK AT MOST 1048576: true; the input reads as it did. -/
def fnExactWithBitsValueUptoRow : OpenClaim := { program := "ytcilbmbgdcepgaa", sum := "16a75a744be69918a62a6e6d540b8b61cbaa126f378e7b120b71907dfa6500ab", func := "loop.example/g00942/laws.FnExactWithBitsValue", spec := "fnExactWithBitsValue", apart := false, narrowed := true }
def FnExactWithBitsValueUptoSaid : Prop := fnExactWithBitsValueUptoRow.holds Try.pinned (OpenSpec.upto fnExactWithBitsValueSpec)

/-- 'laws.FnExactSetInputs', WHERE WHAT IT READS IS OF BULK AT MOST 1048576: true; the input reads as it did. -/
def fnExactSetInputsUptoRow : OpenClaim := { program := "ytcilbmbgdcepgaa", sum := "16a75a744be69918a62a6e6d540b8b61cbaa126f378e7b120b71907dfa6500ab", func := "loop.example/g00942/laws.FnExactSetInputs", spec := "fnExactSetInputs", apart := false, narrowed := true }
def FnExactSetInputsUptoSaid : Prop := fnExactSetInputsUptoRow.holds Try.pinned (OpenSpec.upto fnExactSetInputsSpec)

/-- 'laws.FnExactReadEntry', WHERE WHAT IT READS IS OF BULK AT MOST 1048576: true; the input reads as it did. -/
def fnExactReadEntryUptoRow : OpenClaim := { program := "ytcilbmbgdcepgaa", sum := "16a75a744be69918a62a6e6d540b8b61cbaa126f378e7b120b71907dfa6500ab", func := "loop.example/g00942/laws.FnExactReadEntry", spec := "fnExactReadEntry", apart := false, narrowed := true }
def FnExactReadEntryUptoSaid : Prop := fnExactReadEntryUptoRow.holds Try.pinned (OpenSpec.upto fnExactReadEntrySpec)

/-- 'laws.FnExactTableOfBoard', WHERE WHAT IT READS IS OF BULK AT MOST 1048576: true; the input reads as it did. -/
def fnExactTableOfBoardUptoRow : OpenClaim := { program := "ytcilbmbgdcepgaa", sum := "16a75a744be69918a62a6e6d540b8b61cbaa126f378e7b120b71907dfa6500ab", func := "loop.example/g00942/laws.FnExactTableOfBoard", spec := "fnExactTableOfBoard", apart := false, narrowed := true }
def FnExactTableOfBoardUptoSaid : Prop := fnExactTableOfBoardUptoRow.holds Try.pinned (OpenSpec.upto fnExactTableOfBoardSpec)

/-- 'laws.FnExactAddsWith', WHERE WHAT IT READS IS OF BULK AT MOST 1048576: true; the input reads as it did. -/
def fnExactAddsWithUptoRow : OpenClaim := { program := "ytcilbmbgdcepgaa", sum := "16a75a744be69918a62a6e6d540b8b61cbaa126f378e7b120b71907dfa6500ab", func := "loop.example/g00942/laws.FnExactAddsWith", spec := "fnExactAddsWith", apart := false, narrowed := true }
def FnExactAddsWithUptoSaid : Prop := fnExactAddsWithUptoRow.holds Try.pinned (OpenSpec.upto fnExactAddsWithSpec)

/-- 'laws.FnExactCarryBoard', WHERE WHAT IT READS IS OF BULK AT MOST 1048576: true; the input reads as it did. -/
def fnExactCarryBoardUptoRow : OpenClaim := { program := "ytcilbmbgdcepgaa", sum := "16a75a744be69918a62a6e6d540b8b61cbaa126f378e7b120b71907dfa6500ab", func := "loop.example/g00942/laws.FnExactCarryBoard", spec := "fnExactCarryBoard", apart := false, narrowed := true }
def FnExactCarryBoardUptoSaid : Prop := fnExactCarryBoardUptoRow.holds Try.pinned (OpenSpec.upto fnExactCarryBoardSpec)

end Rows
end Go.Proofs.Ytcilbmbgdcepgaa
