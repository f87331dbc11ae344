/-
  No cell of these rows narrows 'for every input' (looked for: loops, veiled, ifaces, maps, wideKeys, modest, calm, conditions, laid).
  DERIVED. THE GIVEN ROWS OF THIS SEAT. 9 by the template 'for every input the law returns true; each argument reads behind the call as it read before'; 0 by the template 'total and deterministic' (their statements: YtkfedkckakegjaaTotals.lean).
  GIVEN WITH THE SEED: the statements are not yours to turn. If you find one false, say at which input.
  Laid BY PROGRAM, IN A SANDBOX (cutbox-rows.mjs): the forced cells as the released guide's own fill.sh prints them over the translation bb73e461aef4c2d9… (all of the seat's roots in one cut). By AI agents, Wed Nov 11 2026. No macro, syntax, notation, axiom, sorry.
-/
import Derived.Test.YtkfedkckakegjaaChecked
import GoSem.Claim
import GoSem.ClaimJoined
import GoSem.ClaimMapViews
import Derived.JoinedTies
import Derived.KernelRfl
namespace Go.Proofs.Ytkfedkckakegjaa
/- THE CELL 'sum', in the pinned program and in every row, IS THE sha256 OF THE DUMP (.gsa) THAT YtkfedkckakegjaaProg.lean LOADS. Nothing in Lean hashes anything: it is a label: what it is worth is what the hold of that sum in a sandbox is worth. -/
noncomputable def Try.pinned : Pinned := { name := "ytkfedkckakegjaa", sum := "bb73e461aef4c2d9225219d057c555025d46aa6d0ef8d169f1667c81c3f4b582", checked := Try.checked }
namespace Rows
def none {H : Type} : Left H := { results := [], args := [] }

/-- 'laws.FnExactStateAfter': WHATEVER THE INPUT: true; the input reads as it did. -/
def fnExactStateAfterSpec : ChangeSpec := { name := "fnExactStateAfter", fn := fun _ => fun
  | [d1, d2] => { results := [.lit (.bool true)], args := [d1, d2] }
  | _ => none }
def fnExactStateAfterRow : OpenClaim := { program := "ytkfedkckakegjaa", sum := "bb73e461aef4c2d9225219d057c555025d46aa6d0ef8d169f1667c81c3f4b582", func := "loop.example/g00942/laws.FnExactStateAfter", spec := "fnExactStateAfter", apart := false }
def FnExactStateAfterSaid : Prop := fnExactStateAfterRow.holds Try.pinned (OpenSpec.ofChange fnExactStateAfterSpec)

/-- ITS FALSE NEIGHBOUR: 'it returns false'. Refute it at one input. -/
def fnExactStateAfterWrong : ChangeSpec := { name := "fnExactStateAfter", fn := fun _ => fun
  | [d1, d2] => { results := [.lit (.bool false)], args := [d1, d2] }
  | _ => none }
def FnExactStateAfterWrongFalsely : Prop := fnExactStateAfterRow.holds Try.pinned (OpenSpec.ofChange fnExactStateAfterWrong)

/-- 'laws.FnExactAccepts': WHATEVER THE INPUT: true; the input reads as it did. -/
def fnExactAcceptsSpec : ChangeSpec := { name := "fnExactAccepts", fn := fun _ => fun
  | [d1, d2] => { results := [.lit (.bool true)], args := [d1, d2] }
  | _ => none }
def fnExactAcceptsRow : OpenClaim := { program := "ytkfedkckakegjaa", sum := "bb73e461aef4c2d9225219d057c555025d46aa6d0ef8d169f1667c81c3f4b582", func := "loop.example/g00942/laws.FnExactAccepts", spec := "fnExactAccepts", apart := false }
def FnExactAcceptsSaid : Prop := fnExactAcceptsRow.holds Try.pinned (OpenSpec.ofChange fnExactAcceptsSpec)

/-- ITS FALSE NEIGHBOUR: 'it returns false'. Refute it at one input. -/
def fnExactAcceptsWrong : ChangeSpec := { name := "fnExactAccepts", fn := fun _ => fun
  | [d1, d2] => { results := [.lit (.bool false)], args := [d1, d2] }
  | _ => none }
def FnExactAcceptsWrongFalsely : Prop := fnExactAcceptsRow.holds Try.pinned (OpenSpec.ofChange fnExactAcceptsWrong)

/-- 'laws.FnExactShortestAccepted': WHATEVER THE INPUT: true; the input reads as it did. -/
def fnExactShortestAcceptedSpec : ChangeSpec := { name := "fnExactShortestAccepted", fn := fun _ => fun
  | [d] => { results := [.lit (.bool true)], args := [d] }
  | _ => none }
def fnExactShortestAcceptedRow : OpenClaim := { program := "ytkfedkckakegjaa", sum := "bb73e461aef4c2d9225219d057c555025d46aa6d0ef8d169f1667c81c3f4b582", func := "loop.example/g00942/laws.FnExactShortestAccepted", spec := "fnExactShortestAccepted", apart := false }
def FnExactShortestAcceptedSaid : Prop := fnExactShortestAcceptedRow.holds Try.pinned (OpenSpec.ofChange fnExactShortestAcceptedSpec)

/-- ITS FALSE NEIGHBOUR: 'it returns false'. Refute it at one input. -/
def fnExactShortestAcceptedWrong : ChangeSpec := { name := "fnExactShortestAccepted", fn := fun _ => fun
  | [d] => { results := [.lit (.bool false)], args := [d] }
  | _ => none }
def FnExactShortestAcceptedWrongFalsely : Prop := fnExactShortestAcceptedRow.holds Try.pinned (OpenSpec.ofChange fnExactShortestAcceptedWrong)

/-- 'laws.FnExactTurnFinal': WHATEVER THE INPUT: true; the input reads as it did. -/
def fnExactTurnFinalSpec : ChangeSpec := { name := "fnExactTurnFinal", fn := fun _ => fun
  | [d] => { results := [.lit (.bool true)], args := [d] }
  | _ => none }
def fnExactTurnFinalRow : OpenClaim := { program := "ytkfedkckakegjaa", sum := "bb73e461aef4c2d9225219d057c555025d46aa6d0ef8d169f1667c81c3f4b582", func := "loop.example/g00942/laws.FnExactTurnFinal", spec := "fnExactTurnFinal", apart := false }
def FnExactTurnFinalSaid : Prop := fnExactTurnFinalRow.holds Try.pinned (OpenSpec.ofChange fnExactTurnFinalSpec)

/-- ITS FALSE NEIGHBOUR: 'it returns false'. Refute it at one input. -/
def fnExactTurnFinalWrong : ChangeSpec := { name := "fnExactTurnFinal", fn := fun _ => fun
  | [d] => { results := [.lit (.bool false)], args := [d] }
  | _ => none }
def FnExactTurnFinalWrongFalsely : Prop := fnExactTurnFinalRow.holds Try.pinned (OpenSpec.ofChange fnExactTurnFinalWrong)

/-- 'laws.FnExactAcceptedWords': WHATEVER THE INPUT: true; the input reads as it did. -/
def fnExactAcceptedWordsSpec : ChangeSpec := { name := "fnExactAcceptedWords", fn := fun _ => fun
  | [d1, d2] => { results := [.lit (.bool true)], args := [d1, d2] }
  | _ => none }
def fnExactAcceptedWordsRow : OpenClaim := { program := "ytkfedkckakegjaa", sum := "bb73e461aef4c2d9225219d057c555025d46aa6d0ef8d169f1667c81c3f4b582", func := "loop.example/g00942/laws.FnExactAcceptedWords", spec := "fnExactAcceptedWords", apart := false }
def FnExactAcceptedWordsSaid : Prop := fnExactAcceptedWordsRow.holds Try.pinned (OpenSpec.ofChange fnExactAcceptedWordsSpec)

/-- ITS FALSE NEIGHBOUR: 'it returns false'. Refute it at one input. -/
def fnExactAcceptedWordsWrong : ChangeSpec := { name := "fnExactAcceptedWords", fn := fun _ => fun
  | [d1, d2] => { results := [.lit (.bool false)], args := [d1, d2] }
  | _ => none }
def FnExactAcceptedWordsWrongFalsely : Prop := fnExactAcceptedWordsRow.holds Try.pinned (OpenSpec.ofChange fnExactAcceptedWordsWrong)

/-- 'laws.FnExactStateWords': WHATEVER THE INPUT: true; the input reads as it did. -/
def fnExactStateWordsSpec : ChangeSpec := { name := "fnExactStateWords", fn := fun _ => fun
  | [d] => { results := [.lit (.bool true)], args := [d] }
  | _ => none }
def fnExactStateWordsRow : OpenClaim := { program := "ytkfedkckakegjaa", sum := "bb73e461aef4c2d9225219d057c555025d46aa6d0ef8d169f1667c81c3f4b582", func := "loop.example/g00942/laws.FnExactStateWords", spec := "fnExactStateWords", apart := false }
def FnExactStateWordsSaid : Prop := fnExactStateWordsRow.holds Try.pinned (OpenSpec.ofChange fnExactStateWordsSpec)

/-- ITS FALSE NEIGHBOUR: 'it returns false'. Refute it at one input. -/
def fnExactStateWordsWrong : ChangeSpec := { name := "fnExactStateWords", fn := fun _ => fun
  | [d] => { results := [.lit (.bool false)], args := [d] }
  | _ => none }
def FnExactStateWordsWrongFalsely : Prop := fnExactStateWordsRow.holds Try.pinned (OpenSpec.ofChange fnExactStateWordsWrong)

/-- 'laws.FnExactIsFinite': WHATEVER THE INPUT: true; the input reads as it did. -/
def fnExactIsFiniteSpec : ChangeSpec := { name := "fnExactIsFinite", fn := fun _ => fun
  | [d] => { results := [.lit (.bool true)], args := [d] }
  | _ => none }
def fnExactIsFiniteRow : OpenClaim := { program := "ytkfedkckakegjaa", sum := "bb73e461aef4c2d9225219d057c555025d46aa6d0ef8d169f1667c81c3f4b582", func := "loop.example/g00942/laws.FnExactIsFinite", spec := "fnExactIsFinite", apart := false }
def FnExactIsFiniteSaid : Prop := fnExactIsFiniteRow.holds Try.pinned (OpenSpec.ofChange fnExactIsFiniteSpec)

/-- ITS FALSE NEIGHBOUR: 'it returns false'. Refute it at one input. -/
def fnExactIsFiniteWrong : ChangeSpec := { name := "fnExactIsFinite", fn := fun _ => fun
  | [d] => { results := [.lit (.bool false)], args := [d] }
  | _ => none }
def FnExactIsFiniteWrongFalsely : Prop := fnExactIsFiniteRow.holds Try.pinned (OpenSpec.ofChange fnExactIsFiniteWrong)

/-- 'laws.FnExactLongestAccepted': WHATEVER THE INPUT: true; the input reads as it did. -/
def fnExactLongestAcceptedSpec : ChangeSpec := { name := "fnExactLongestAccepted", fn := fun _ => fun
  | [d] => { results := [.lit (.bool true)], args := [d] }
  | _ => none }
def fnExactLongestAcceptedRow : OpenClaim := { program := "ytkfedkckakegjaa", sum := "bb73e461aef4c2d9225219d057c555025d46aa6d0ef8d169f1667c81c3f4b582", func := "loop.example/g00942/laws.FnExactLongestAccepted", spec := "fnExactLongestAccepted", apart := false }
def FnExactLongestAcceptedSaid : Prop := fnExactLongestAcceptedRow.holds Try.pinned (OpenSpec.ofChange fnExactLongestAcceptedSpec)

/-- ITS FALSE NEIGHBOUR: 'it returns false'. Refute it at one input. -/
def fnExactLongestAcceptedWrong : ChangeSpec := { name := "fnExactLongestAccepted", fn := fun _ => fun
  | [d] => { results := [.lit (.bool false)], args := [d] }
  | _ => none }
def FnExactLongestAcceptedWrongFalsely : Prop := fnExactLongestAcceptedRow.holds Try.pinned (OpenSpec.ofChange fnExactLongestAcceptedWrong)

/-- 'laws.FnExactReachedStates': WHATEVER THE INPUT: true; the input reads as it did. -/
def fnExactReachedStatesSpec : ChangeSpec := { name := "fnExactReachedStates", fn := fun _ => fun
  | [d] => { results := [.lit (.bool true)], args := [d] }
  | _ => none }
def fnExactReachedStatesRow : OpenClaim := { program := "ytkfedkckakegjaa", sum := "bb73e461aef4c2d9225219d057c555025d46aa6d0ef8d169f1667c81c3f4b582", func := "loop.example/g00942/laws.FnExactReachedStates", spec := "fnExactReachedStates", recurses := true, apart := false }
def FnExactReachedStatesSaid : Prop := fnExactReachedStatesRow.holds Try.pinned (OpenSpec.ofChange fnExactReachedStatesSpec)

/-- ITS FALSE NEIGHBOUR: 'it returns false'. Refute it at one input. -/
def fnExactReachedStatesWrong : ChangeSpec := { name := "fnExactReachedStates", fn := fun _ => fun
  | [d] => { results := [.lit (.bool false)], args := [d] }
  | _ => none }
def FnExactReachedStatesWrongFalsely : Prop := fnExactReachedStatesRow.holds Try.pinned (OpenSpec.ofChange fnExactReachedStatesWrong)

/- THE SECOND FORM. 'bulk': how many values and letters a reading holds, each counted each time it is reached (what is shared counts as often as it is met; a slice's spare places count too). A statement '..UptoSaid' is the law's where the arguments, and the package variables that the reading takes, are together of bulk at most 1048576: NARROWER than '..Said'. Prove '..Said' where nothing that the law and all that it calls make is longer than what came in: it says more and counts as full. Else prove '..UptoSaid'. A law counts once. -/
mutual
def uptoBulk {H : Type} : DataW H → Nat
  | .lit (.string bytes) => bytes.length + 1
  | .lit _ => 1
  | .nil => 1
  | .ptr d => uptoBulk d + 1
  | .slice elems spare => uptoBulkAll elems + uptoBulkAll spare + 1
  | .agg parts => uptoBulkAll parts + 1
  | .iface _ d => uptoBulk d + 1
  | .map entries => uptoBulkEntries entries + 1
  | .held _ => 1
def uptoBulkAll {H : Type} : List (DataW H) → Nat
  | [] => 0
  | d :: r => uptoBulk d + uptoBulkAll r
def uptoBulkEntries {H : Type} : List (Lit × DataW H) → Nat
  | [] => 0
  | x :: r => uptoBulkEntry x + uptoBulkEntries r
def uptoBulkEntry {H : Type} : Lit × DataW H → Nat
  | (.string bytes, d) => bytes.length + uptoBulk d + 1
  | (_, d) => uptoBulk d + 1
 end
def uptoSmall : (H : Type) → List (DataW H) → Bool := fun _ ds => decide (uptoBulkAll ds ≤ 1048576)
def OpenSpec.upto (s : _root_.Go.ChangeSpec) : _root_.Go.OpenSpec := { _root_.Go.OpenSpec.ofChange s with cond := some uptoSmall }

/-- 'laws.FnExactStateAfter', WHERE WHAT IT READS IS OF BULK AT MOST 1048576: true; the input reads as it did. -/
def fnExactStateAfterUptoRow : OpenClaim := { program := "ytkfedkckakegjaa", sum := "bb73e461aef4c2d9225219d057c555025d46aa6d0ef8d169f1667c81c3f4b582", func := "loop.example/g00942/laws.FnExactStateAfter", spec := "fnExactStateAfter", apart := false, narrowed := true }
def FnExactStateAfterUptoSaid : Prop := fnExactStateAfterUptoRow.holds Try.pinned (OpenSpec.upto fnExactStateAfterSpec)

/-- 'laws.FnExactAccepts', WHERE WHAT IT READS IS OF BULK AT MOST 1048576: true; the input reads as it did. -/
def fnExactAcceptsUptoRow : OpenClaim := { program := "ytkfedkckakegjaa", sum := "bb73e461aef4c2d9225219d057c555025d46aa6d0ef8d169f1667c81c3f4b582", func := "loop.example/g00942/laws.FnExactAccepts", spec := "fnExactAccepts", apart := false, narrowed := true }
def FnExactAcceptsUptoSaid : Prop := fnExactAcceptsUptoRow.holds Try.pinned (OpenSpec.upto fnExactAcceptsSpec)

/-- 'laws.FnExactShortestAccepted', WHERE WHAT IT READS IS OF BULK AT MOST 1048576: true; the input reads as it did. -/
def fnExactShortestAcceptedUptoRow : OpenClaim := { program := "ytkfedkckakegjaa", sum := "bb73e461aef4c2d9225219d057c555025d46aa6d0ef8d169f1667c81c3f4b582", func := "loop.example/g00942/laws.FnExactShortestAccepted", spec := "fnExactShortestAccepted", apart := false, narrowed := true }
def FnExactShortestAcceptedUptoSaid : Prop := fnExactShortestAcceptedUptoRow.holds Try.pinned (OpenSpec.upto fnExactShortestAcceptedSpec)

/-- 'laws.FnExactTurnFinal', WHERE WHAT IT READS IS OF BULK AT MOST 1048576: true; the input reads as it did. -/
def fnExactTurnFinalUptoRow : OpenClaim := { program := "ytkfedkckakegjaa", sum := "bb73e461aef4c2d9225219d057c555025d46aa6d0ef8d169f1667c81c3f4b582", func := "loop.example/g00942/laws.FnExactTurnFinal", spec := "fnExactTurnFinal", apart := false, narrowed := true }
def FnExactTurnFinalUptoSaid : Prop := fnExactTurnFinalUptoRow.holds Try.pinned (OpenSpec.upto fnExactTurnFinalSpec)

/-- 'laws.FnExactAcceptedWords', WHERE WHAT IT READS IS OF BULK AT MOST 1048576: true; the input reads as it did. -/
def fnExactAcceptedWordsUptoRow : OpenClaim := { program := "ytkfedkckakegjaa", sum := "bb73e461aef4c2d9225219d057c555025d46aa6d0ef8d169f1667c81c3f4b582", func := "loop.example/g00942/laws.FnExactAcceptedWords", spec := "fnExactAcceptedWords", apart := false, narrowed := true }
def FnExactAcceptedWordsUptoSaid : Prop := fnExactAcceptedWordsUptoRow.holds Try.pinned (OpenSpec.upto fnExactAcceptedWordsSpec)

/-- 'laws.FnExactStateWords', WHERE WHAT IT READS IS OF BULK AT MOST 1048576: true; the input reads as it did. -/
def fnExactStateWordsUptoRow : OpenClaim := { program := "ytkfedkckakegjaa", sum := "bb73e461aef4c2d9225219d057c555025d46aa6d0ef8d169f1667c81c3f4b582", func := "loop.example/g00942/laws.FnExactStateWords", spec := "fnExactStateWords", apart := false, narrowed := true }
def FnExactStateWordsUptoSaid : Prop := fnExactStateWordsUptoRow.holds Try.pinned (OpenSpec.upto fnExactStateWordsSpec)

/-- 'laws.FnExactIsFinite', WHERE WHAT IT READS IS OF BULK AT MOST 1048576: true; the input reads as it did. -/
def fnExactIsFiniteUptoRow : OpenClaim := { program := "ytkfedkckakegjaa", sum := "bb73e461aef4c2d9225219d057c555025d46aa6d0ef8d169f1667c81c3f4b582", func := "loop.example/g00942/laws.FnExactIsFinite", spec := "fnExactIsFinite", apart := false, narrowed := true }
def FnExactIsFiniteUptoSaid : Prop := fnExactIsFiniteUptoRow.holds Try.pinned (OpenSpec.upto fnExactIsFiniteSpec)

/-- 'laws.FnExactLongestAccepted', WHERE WHAT IT READS IS OF BULK AT MOST 1048576: true; the input reads as it did. -/
def fnExactLongestAcceptedUptoRow : OpenClaim := { program := "ytkfedkckakegjaa", sum := "bb73e461aef4c2d9225219d057c555025d46aa6d0ef8d169f1667c81c3f4b582", func := "loop.example/g00942/laws.FnExactLongestAccepted", spec := "fnExactLongestAccepted", apart := false, narrowed := true }
def FnExactLongestAcceptedUptoSaid : Prop := fnExactLongestAcceptedUptoRow.holds Try.pinned (OpenSpec.upto fnExactLongestAcceptedSpec)

/-- 'laws.FnExactReachedStates', WHERE WHAT IT READS IS OF BULK AT MOST 1048576: true; the input reads as it did. -/
def fnExactReachedStatesUptoRow : OpenClaim := { program := "ytkfedkckakegjaa", sum := "bb73e461aef4c2d9225219d057c555025d46aa6d0ef8d169f1667c81c3f4b582", func := "loop.example/g00942/laws.FnExactReachedStates", spec := "fnExactReachedStates", recurses := true, apart := false, narrowed := true }
def FnExactReachedStatesUptoSaid : Prop := fnExactReachedStatesUptoRow.holds Try.pinned (OpenSpec.upto fnExactReachedStatesSpec)

end Rows
end Go.Proofs.Ytkfedkckakegjaa
