/-
  No cell of these rows narrows 'for every input' (looked for: loops, veiled, ifaces, maps, wideKeys, modest, calm, conditions, laid).
  DERIVED. THE GIVEN ROWS OF THIS SEAT. 5 by the template 'for every input the law returns true; each argument reads behind the call as it read before'; 0 by the template 'total and deterministic' (their statements: YtadhbepoblllhaaTotals.lean).
  GIVEN WITH THE SEED: the statements are not yours to turn. If you find one false, say at which input.
  Laid BY PROGRAM, IN A SANDBOX (cutbox-rows.mjs): the forced cells as the released guide's own fill.sh prints them over the translation 2e128d8fcada6e31… (all of the seat's roots in one cut). By AI agents, Wed Nov 11 2026. No macro, syntax, notation, axiom, sorry.
-/
import Derived.Test.YtadhbepoblllhaaChecked
import GoSem.Claim
import GoSem.ClaimJoined
import GoSem.ClaimMapViews
import Derived.JoinedTies
import Derived.KernelRfl
namespace Go.Proofs.Ytadhbepoblllhaa
/- THE CELL 'sum', in the pinned program and in every row, IS THE sha256 OF THE DUMP (.gsa) THAT YtadhbepoblllhaaProg.lean LOADS. Nothing in Lean hashes anything: it is a label: what it is worth is what the hold of that sum in a sandbox is worth. -/
noncomputable def Try.pinned : Pinned := { name := "ytadhbepoblllhaa", sum := "2e128d8fcada6e3119ba9bf07669a3d306a94d649584bd3f78da5fe3f952b42e", checked := Try.checked }
namespace Rows
def none {H : Type} : Left H := { results := [], args := [] }

/-- 'laws.FnExactAreEqual': WHATEVER THE INPUT: true; the input reads as it did. -/
def fnExactAreEqualSpec : ChangeSpec := { name := "fnExactAreEqual", fn := fun _ => fun
  | [d1, d2] => { results := [.lit (.bool true)], args := [d1, d2] }
  | _ => none }
def fnExactAreEqualRow : OpenClaim := { program := "ytadhbepoblllhaa", sum := "2e128d8fcada6e3119ba9bf07669a3d306a94d649584bd3f78da5fe3f952b42e", func := "loop.example/g00942/laws.FnExactAreEqual", spec := "fnExactAreEqual", plainKeys := false, apart := false }
def FnExactAreEqualSaid : Prop := fnExactAreEqualRow.holds Try.pinned (OpenSpec.ofChange fnExactAreEqualSpec)

/-- ITS FALSE NEIGHBOUR: 'it returns false'. Refute it at one input. -/
def fnExactAreEqualWrong : ChangeSpec := { name := "fnExactAreEqual", fn := fun _ => fun
  | [d1, d2] => { results := [.lit (.bool false)], args := [d1, d2] }
  | _ => none }
def FnExactAreEqualWrongFalsely : Prop := fnExactAreEqualRow.holds Try.pinned (OpenSpec.ofChange fnExactAreEqualWrong)

/-- 'laws.FnExactIsPartOf': WHATEVER THE INPUT: true; the input reads as it did. -/
def fnExactIsPartOfSpec : ChangeSpec := { name := "fnExactIsPartOf", fn := fun _ => fun
  | [d1, d2] => { results := [.lit (.bool true)], args := [d1, d2] }
  | _ => none }
def fnExactIsPartOfRow : OpenClaim := { program := "ytadhbepoblllhaa", sum := "2e128d8fcada6e3119ba9bf07669a3d306a94d649584bd3f78da5fe3f952b42e", func := "loop.example/g00942/laws.FnExactIsPartOf", spec := "fnExactIsPartOf", plainKeys := false, apart := false }
def FnExactIsPartOfSaid : Prop := fnExactIsPartOfRow.holds Try.pinned (OpenSpec.ofChange fnExactIsPartOfSpec)

/-- ITS FALSE NEIGHBOUR: 'it returns false'. Refute it at one input. -/
def fnExactIsPartOfWrong : ChangeSpec := { name := "fnExactIsPartOf", fn := fun _ => fun
  | [d1, d2] => { results := [.lit (.bool false)], args := [d1, d2] }
  | _ => none }
def FnExactIsPartOfWrongFalsely : Prop := fnExactIsPartOfRow.holds Try.pinned (OpenSpec.ofChange fnExactIsPartOfWrong)

/-- 'laws.FnExactApartWord': WHATEVER THE INPUT: true; the input reads as it did. -/
def fnExactApartWordSpec : ChangeSpec := { name := "fnExactApartWord", fn := fun _ => fun
  | [d1, d2, d3] => { results := [.lit (.bool true)], args := [d1, d2, d3] }
  | _ => none }
def fnExactApartWordRow : OpenClaim := { program := "ytadhbepoblllhaa", sum := "2e128d8fcada6e3119ba9bf07669a3d306a94d649584bd3f78da5fe3f952b42e", func := "loop.example/g00942/laws.FnExactApartWord", spec := "fnExactApartWord", plainKeys := false, apart := false }
def FnExactApartWordSaid : Prop := fnExactApartWordRow.holds Try.pinned (OpenSpec.ofChange fnExactApartWordSpec)

/-- ITS FALSE NEIGHBOUR: 'it returns false'. Refute it at one input. -/
def fnExactApartWordWrong : ChangeSpec := { name := "fnExactApartWord", fn := fun _ => fun
  | [d1, d2, d3] => { results := [.lit (.bool false)], args := [d1, d2, d3] }
  | _ => none }
def FnExactApartWordWrongFalsely : Prop := fnExactApartWordRow.holds Try.pinned (OpenSpec.ofChange fnExactApartWordWrong)

/-- 'laws.FnExactFirstWord': WHATEVER THE INPUT: true; the input reads as it did. -/
def fnExactFirstWordSpec : ChangeSpec := { name := "fnExactFirstWord", fn := fun _ => fun
  | [d1, d2, d3] => { results := [.lit (.bool true)], args := [d1, d2, d3] }
  | _ => none }
def fnExactFirstWordRow : OpenClaim := { program := "ytadhbepoblllhaa", sum := "2e128d8fcada6e3119ba9bf07669a3d306a94d649584bd3f78da5fe3f952b42e", func := "loop.example/g00942/laws.FnExactFirstWord", spec := "fnExactFirstWord", plainKeys := false, apart := false }
def FnExactFirstWordSaid : Prop := fnExactFirstWordRow.holds Try.pinned (OpenSpec.ofChange fnExactFirstWordSpec)

/-- ITS FALSE NEIGHBOUR: 'it returns false'. Refute it at one input. -/
def fnExactFirstWordWrong : ChangeSpec := { name := "fnExactFirstWord", fn := fun _ => fun
  | [d1, d2, d3] => { results := [.lit (.bool false)], args := [d1, d2, d3] }
  | _ => none }
def FnExactFirstWordWrongFalsely : Prop := fnExactFirstWordRow.holds Try.pinned (OpenSpec.ofChange fnExactFirstWordWrong)

/-- 'laws.FnExactEqualStates': WHATEVER THE INPUT: true; the input reads as it did. -/
def fnExactEqualStatesSpec : ChangeSpec := { name := "fnExactEqualStates", fn := fun _ => fun
  | [d] => { results := [.lit (.bool true)], args := [d] }
  | _ => none }
def fnExactEqualStatesRow : OpenClaim := { program := "ytadhbepoblllhaa", sum := "2e128d8fcada6e3119ba9bf07669a3d306a94d649584bd3f78da5fe3f952b42e", func := "loop.example/g00942/laws.FnExactEqualStates", spec := "fnExactEqualStates", plainKeys := false, apart := false }
def FnExactEqualStatesSaid : Prop := fnExactEqualStatesRow.holds Try.pinned (OpenSpec.ofChange fnExactEqualStatesSpec)

/-- ITS FALSE NEIGHBOUR: 'it returns false'. Refute it at one input. -/
def fnExactEqualStatesWrong : ChangeSpec := { name := "fnExactEqualStates", fn := fun _ => fun
  | [d] => { results := [.lit (.bool false)], args := [d] }
  | _ => none }
def FnExactEqualStatesWrongFalsely : Prop := fnExactEqualStatesRow.holds Try.pinned (OpenSpec.ofChange fnExactEqualStatesWrong)

/- THE SECOND FORM. 'bulk': how many values and letters a reading holds, each counted each time it is reached (what is shared counts as often as it is met; a slice's spare places count too). A statement '..UptoSaid' is the law's where the arguments, and the package variables that the reading takes, are together of bulk at most 1048576: NARROWER than '..Said'. Prove '..Said' where nothing that the law and all that it calls make is longer than what came in: it says more and counts as full. Else prove '..UptoSaid'. A law counts once. -/
mutual
def uptoBulk {H : Type} : DataW H → Nat
  | .lit (.string bytes) => bytes.length + 1
  | .lit _ => 1
  | .nil => 1
  | .ptr d => uptoBulk d + 1
  | .slice elems spare => uptoBulkAll elems + uptoBulkAll spare + 1
  | .agg parts => uptoBulkAll parts + 1
  | .iface _ d => uptoBulk d + 1
  | .map entries => uptoBulkEntries entries + 1
  | .held _ => 1
def uptoBulkAll {H : Type} : List (DataW H) → Nat
  | [] => 0
  | d :: r => uptoBulk d + uptoBulkAll r
def uptoBulkEntries {H : Type} : List (Lit × DataW H) → Nat
  | [] => 0
  | x :: r => uptoBulkEntry x + uptoBulkEntries r
def uptoBulkEntry {H : Type} : Lit × DataW H → Nat
  | (.string bytes, d) => bytes.length + uptoBulk d + 1
  | (_, d) => uptoBulk d + 1
 end
def uptoSmall : (H : Type) → List (DataW H) → Bool := fun _ ds => decide (uptoBulkAll ds ≤ 1048576)
def OpenSpec.upto (s : _root_.Go.ChangeSpec) : _root_.Go.OpenSpec := { _root_.Go.OpenSpec.ofChange s with cond := some uptoSmall }

/-- 'laws.FnExactAreEqual', WHERE WHAT IT READS IS OF BULK AT MOST 1048576: true; the input reads as it did. -/
def fnExactAreEqualUptoRow : OpenClaim := { program := "ytadhbepoblllhaa", sum := "2e128d8fcada6e3119ba9bf07669a3d306a94d649584bd3f78da5fe3f952b42e", func := "loop.example/g00942/laws.FnExactAreEqual", spec := "fnExactAreEqual", plainKeys := false, apart := false, narrowed := true }
def FnExactAreEqualUptoSaid : Prop := fnExactAreEqualUptoRow.holds Try.pinned (OpenSpec.upto fnExactAreEqualSpec)

/-- 'laws.FnExactIsPartOf', WHERE WHAT IT READS IS OF BULK AT MOST 1048576: true; the input reads as it did. -/
def fnExactIsPartOfUptoRow : OpenClaim := { program := "ytadhbepoblllhaa", sum := "2e128d8fcada6e3119ba9bf07669a3d306a94d649584bd3f78da5fe3f952b42e", func := "loop.example/g00942/laws.FnExactIsPartOf", spec := "fnExactIsPartOf", plainKeys := false, apart := false, narrowed := true }
def FnExactIsPartOfUptoSaid : Prop := fnExactIsPartOfUptoRow.holds Try.pinned (OpenSpec.upto fnExactIsPartOfSpec)

/-- 'laws.FnExactApartWord', WHERE WHAT IT READS IS OF BULK AT MOST 1048576: true; the input reads as it did. -/
def fnExactApartWordUptoRow : OpenClaim := { program := "ytadhbepoblllhaa", sum := "2e128d8fcada6e3119ba9bf07669a3d306a94d649584bd3f78da5fe3f952b42e", func := "loop.example/g00942/laws.FnExactApartWord", spec := "fnExactApartWord", plainKeys := false, apart := false, narrowed := true }
def FnExactApartWordUptoSaid : Prop := fnExactApartWordUptoRow.holds Try.pinned (OpenSpec.upto fnExactApartWordSpec)

/-- 'laws.FnExactFirstWord', WHERE WHAT IT READS IS OF BULK AT MOST 1048576: true; the input reads as it did. -/
def fnExactFirstWordUptoRow : OpenClaim := { program := "ytadhbepoblllhaa", sum := "2e128d8fcada6e3119ba9bf07669a3d306a94d649584bd3f78da5fe3f952b42e", func := "loop.example/g00942/laws.FnExactFirstWord", spec := "fnExactFirstWord", plainKeys := false, apart := false, narrowed := true }
def FnExactFirstWordUptoSaid : Prop := fnExactFirstWordUptoRow.holds Try.pinned (OpenSpec.upto fnExactFirstWordSpec)

/-- 'laws.FnExactEqualStates', WHERE WHAT IT READS IS OF BULK AT MOST 1048576: true; the input reads as it did. -/
def fnExactEqualStatesUptoRow : OpenClaim := { program := "ytadhbepoblllhaa", sum := "2e128d8fcada6e3119ba9bf07669a3d306a94d649584bd3f78da5fe3f952b42e", func := "loop.example/g00942/laws.FnExactEqualStates", spec := "fnExactEqualStates", plainKeys := false, apart := false, narrowed := true }
def FnExactEqualStatesUptoSaid : Prop := fnExactEqualStatesUptoRow.holds Try.pinned (OpenSpec.upto fnExactEqualStatesSpec)

end Rows
end Go.Proofs.Ytadhbepoblllhaa
