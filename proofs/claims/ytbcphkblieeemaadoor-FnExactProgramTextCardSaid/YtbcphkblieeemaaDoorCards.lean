/-
  DERIVED. GIVEN WITH THE SEED: THE CARDS: each row of YtbcphkblieeemaaDoorRows.lean that lists a variable, with what it lists TIED to the program's text (the seventh form; the later family's looks); each row that meets fmt, with fmt's text TOLD by the authors' own Lean function (tested against real Go, not proved from fmt's source: count such statements apart). THE CARD IS WHAT COUNTS. Prove the row's statement (the work); the ties are given (YtbcphkblieeemaaDoorTie.lean); close each card by the builder's one call (the guide's Derived/Test/ToyasCard.lean, 'card_holds'). Laid BY PROGRAM, IN A SANDBOX (cutbox-door.mjs). By AI agents, Wed Nov 11 2026. No macro, syntax, notation, axiom, sorry.
-/
import Derived.Test.YtbcphkblieeemaaDoorRows
import GoSem.ClaimSeven
namespace Go.Proofs.YtbcphkblieeemaaDoor
namespace Rows

/-- THE TIED CARD OF 'laws.FnExactRepeatsFrom'. -/
def fnExactRepeatsFromCard : Claim7 := { stood := { row := fnExactRepeatsFromRow, standIns := [], harness := (true, "1ddc389733130ee72c564fb87f97c3d38ed1ff123d1bae614f0019e4f57d1877"), looks := false }, kinds := [], alts := [], laidByText := true, laidKinds := [.data, .data, .data], laidTests := true, laidLooks := .later }
def FnExactRepeatsFromCardSaid : Prop := Claim7.holds Tryd.pinned (.plain (OpenSpec.ofChange fnExactRepeatsFromSpec)) fnExactRepeatsFromCard

/-- THE TIED CARD OF 'laws.FnExactProgramText'. -/
def fnExactProgramTextCard : Claim7 := { stood := { row := fnExactProgramTextRow, standIns := [], harness := (true, "1ddc389733130ee72c564fb87f97c3d38ed1ff123d1bae614f0019e4f57d1877"), looks := false }, kinds := [], alts := [], laidByText := true, laidKinds := [.data, .data, .data, .data], laidTests := true, laidLooks := .later }
def FnExactProgramTextCardSaid : Prop := Claim7.holds Tryd.pinned (.plain (OpenSpec.ofChange fnExactProgramTextSpec)) fnExactProgramTextCard

/-- THE TIED CARD OF 'laws.FnExactParseProgram'. -/
def fnExactParseProgramCard : Claim7 := { stood := { row := fnExactParseProgramRow, standIns := [], harness := (true, "1ddc389733130ee72c564fb87f97c3d38ed1ff123d1bae614f0019e4f57d1877"), looks := false }, kinds := [], alts := [], laidByText := true, laidKinds := [.data, .data, .pinned], laidTests := true, laidLooks := .later }
def FnExactParseProgramCardSaid : Prop := Claim7.holds Tryd.pinned (.plain (OpenSpec.ofChange fnExactParseProgramSpec)) fnExactParseProgramCard

/-- THE SECOND FORM's CARD OF 'laws.FnExactRepeatsFrom'. -/
def fnExactRepeatsFromUptoCard : Claim7 := { stood := { row := fnExactRepeatsFromUptoRow, standIns := [], harness := (true, "1ddc389733130ee72c564fb87f97c3d38ed1ff123d1bae614f0019e4f57d1877"), looks := false }, kinds := [], alts := [], laidByText := true, laidKinds := [.data, .data, .data], laidTests := true, laidLooks := .later }
def FnExactRepeatsFromUptoCardSaid : Prop := Claim7.holds Tryd.pinned (.plain (OpenSpec.upto fnExactRepeatsFromSpec)) fnExactRepeatsFromUptoCard

/-- THE SECOND FORM's CARD OF 'laws.FnExactProgramText'. -/
def fnExactProgramTextUptoCard : Claim7 := { stood := { row := fnExactProgramTextUptoRow, standIns := [], harness := (true, "1ddc389733130ee72c564fb87f97c3d38ed1ff123d1bae614f0019e4f57d1877"), looks := false }, kinds := [], alts := [], laidByText := true, laidKinds := [.data, .data, .data, .data], laidTests := true, laidLooks := .later }
def FnExactProgramTextUptoCardSaid : Prop := Claim7.holds Tryd.pinned (.plain (OpenSpec.upto fnExactProgramTextSpec)) fnExactProgramTextUptoCard

/-- THE SECOND FORM's CARD OF 'laws.FnExactParseProgram'. -/
def fnExactParseProgramUptoCard : Claim7 := { stood := { row := fnExactParseProgramUptoRow, standIns := [], harness := (true, "1ddc389733130ee72c564fb87f97c3d38ed1ff123d1bae614f0019e4f57d1877"), looks := false }, kinds := [], alts := [], laidByText := true, laidKinds := [.data, .data, .pinned], laidTests := true, laidLooks := .later }
def FnExactParseProgramUptoCardSaid : Prop := Claim7.holds Tryd.pinned (.plain (OpenSpec.upto fnExactParseProgramSpec)) fnExactParseProgramUptoCard
end Rows
end Go.Proofs.YtbcphkblieeemaaDoor
