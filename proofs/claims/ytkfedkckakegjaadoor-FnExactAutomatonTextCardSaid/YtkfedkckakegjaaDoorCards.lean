/-
  DERIVED. GIVEN WITH THE SEED: THE CARDS: each row of YtkfedkckakegjaaDoorRows.lean that lists a variable, with what it lists TIED to the program's text (the seventh form; the later family's looks); each row that meets fmt, with fmt's text TOLD by the authors' own Lean function (tested against real Go, not proved from fmt's source: count such statements apart). THE CARD IS WHAT COUNTS. Prove the row's statement (the work); the ties are given (YtkfedkckakegjaaDoorTie.lean); close each card by the builder's one call (the guide's Derived/Test/ToyasCard.lean, 'card_holds'). Laid BY PROGRAM, IN A SANDBOX (cutbox-door.mjs). By AI agents, Wed Nov 11 2026. No macro, syntax, notation, axiom, sorry.
-/
import Derived.Test.YtkfedkckakegjaaDoorRows
import GoSem.ClaimSeven
namespace Go.Proofs.YtkfedkckakegjaaDoor
namespace Rows

/-- THE TIED CARD OF 'laws.FnExactAutomatonText'. -/
def fnExactAutomatonTextCard : Claim7 := { stood := { row := fnExactAutomatonTextRow, standIns := [], harness := (true, "f9cc5598057d412228ac1caf00c615f838a6ab51075a1659532211f7b2e7ff10"), looks := false }, kinds := [], alts := [], laidByText := true, laidKinds := [.data, .data, .data], laidTests := true, laidLooks := .later }
def FnExactAutomatonTextCardSaid : Prop := Claim7.holds Tryd.pinned (.plain (OpenSpec.ofChange fnExactAutomatonTextSpec)) fnExactAutomatonTextCard

/-- THE TIED CARD OF 'laws.FnExactParseAutomaton'. -/
def fnExactParseAutomatonCard : Claim7 := { stood := { row := fnExactParseAutomatonRow, standIns := [], harness := (true, "f9cc5598057d412228ac1caf00c615f838a6ab51075a1659532211f7b2e7ff10"), looks := false }, kinds := [], alts := [], laidByText := true, laidKinds := [.data, .pinned], laidTests := true, laidLooks := .later }
def FnExactParseAutomatonCardSaid : Prop := Claim7.holds Tryd.pinned (.plain (OpenSpec.ofChange fnExactParseAutomatonSpec)) fnExactParseAutomatonCard

/-- THE TIED CARD OF 'laws.FnExactLeastAutomaton'. -/
def fnExactLeastAutomatonCard : Claim7 := { stood := { row := fnExactLeastAutomatonRow, standIns := [], harness := (true, "f9cc5598057d412228ac1caf00c615f838a6ab51075a1659532211f7b2e7ff10"), looks := false }, kinds := [], alts := [], laidByText := true, laidKinds := [.data, .data, .data], laidTests := true, laidLooks := .later }
def FnExactLeastAutomatonCardSaid : Prop := Claim7.holds Tryd.pinned (.plain (OpenSpec.ofChange fnExactLeastAutomatonSpec)) fnExactLeastAutomatonCard

/-- THE SECOND FORM's CARD OF 'laws.FnExactAutomatonText'. -/
def fnExactAutomatonTextUptoCard : Claim7 := { stood := { row := fnExactAutomatonTextUptoRow, standIns := [], harness := (true, "f9cc5598057d412228ac1caf00c615f838a6ab51075a1659532211f7b2e7ff10"), looks := false }, kinds := [], alts := [], laidByText := true, laidKinds := [.data, .data, .data], laidTests := true, laidLooks := .later }
def FnExactAutomatonTextUptoCardSaid : Prop := Claim7.holds Tryd.pinned (.plain (OpenSpec.upto fnExactAutomatonTextSpec)) fnExactAutomatonTextUptoCard

/-- THE SECOND FORM's CARD OF 'laws.FnExactParseAutomaton'. -/
def fnExactParseAutomatonUptoCard : Claim7 := { stood := { row := fnExactParseAutomatonUptoRow, standIns := [], harness := (true, "f9cc5598057d412228ac1caf00c615f838a6ab51075a1659532211f7b2e7ff10"), looks := false }, kinds := [], alts := [], laidByText := true, laidKinds := [.data, .pinned], laidTests := true, laidLooks := .later }
def FnExactParseAutomatonUptoCardSaid : Prop := Claim7.holds Tryd.pinned (.plain (OpenSpec.upto fnExactParseAutomatonSpec)) fnExactParseAutomatonUptoCard

/-- THE SECOND FORM's CARD OF 'laws.FnExactLeastAutomaton'. -/
def fnExactLeastAutomatonUptoCard : Claim7 := { stood := { row := fnExactLeastAutomatonUptoRow, standIns := [], harness := (true, "f9cc5598057d412228ac1caf00c615f838a6ab51075a1659532211f7b2e7ff10"), looks := false }, kinds := [], alts := [], laidByText := true, laidKinds := [.data, .data, .data], laidTests := true, laidLooks := .later }
def FnExactLeastAutomatonUptoCardSaid : Prop := Claim7.holds Tryd.pinned (.plain (OpenSpec.upto fnExactLeastAutomatonSpec)) fnExactLeastAutomatonUptoCard
end Rows
end Go.Proofs.YtkfedkckakegjaaDoor
