/-
  DERIVED. GIVEN WITH THE SEED: THE CARDS: each row of YtbfhfjpfjkdcfaaDoorRows.lean that lists a variable, with what it lists TIED to the program's text (the seventh form; the later family's looks); each row that meets fmt, with fmt's text TOLD by the authors' own Lean function (tested against real Go, not proved from fmt's source: count such statements apart). THE CARD IS WHAT COUNTS. Prove the row's statement (the work); the ties are given (YtbfhfjpfjkdcfaaDoorTie.lean); close each card by the builder's one call (the guide's Derived/Test/ToyasCard.lean, 'card_holds'). Laid BY PROGRAM, IN A SANDBOX (cutbox-door.mjs). By AI agents, Wed Nov 11 2026. No macro, syntax, notation, axiom, sorry.
-/
import Derived.Test.YtbfhfjpfjkdcfaaDoorRows
import GoSem.ClaimSeven
namespace Go.Proofs.YtbfhfjpfjkdcfaaDoor
namespace Rows

/-- THE TIED CARD OF 'laws.FnExactParseChart'. -/
def fnExactParseChartCard : Claim7 := { stood := { row := fnExactParseChartRow, standIns := [], harness := (true, "267671112f5ff1adbd507ea477d8b745587903763f0caa9454d302b70fe58f93"), looks := false }, kinds := [], alts := [], laidByText := true, laidKinds := [.data, .pinned], laidTests := true, laidLooks := .later }
def FnExactParseChartCardSaid : Prop := Claim7.holds Tryd.pinned (.plain (OpenSpec.ofChange fnExactParseChartSpec)) fnExactParseChartCard

/-- THE TIED CARD OF 'laws.FnExactChartText'. -/
def fnExactChartTextCard : Claim7 := { stood := { row := fnExactChartTextRow, standIns := [], harness := (true, "267671112f5ff1adbd507ea477d8b745587903763f0caa9454d302b70fe58f93"), looks := false }, kinds := [], alts := [], laidByText := true, laidKinds := [.data, .data, .data], laidTests := true, laidLooks := .later }
def FnExactChartTextCardSaid : Prop := Claim7.holds Tryd.pinned (.plain (OpenSpec.ofChange fnExactChartTextSpec)) fnExactChartTextCard

/-- THE SECOND FORM's CARD OF 'laws.FnExactParseChart'. -/
def fnExactParseChartUptoCard : Claim7 := { stood := { row := fnExactParseChartUptoRow, standIns := [], harness := (true, "267671112f5ff1adbd507ea477d8b745587903763f0caa9454d302b70fe58f93"), looks := false }, kinds := [], alts := [], laidByText := true, laidKinds := [.data, .pinned], laidTests := true, laidLooks := .later }
def FnExactParseChartUptoCardSaid : Prop := Claim7.holds Tryd.pinned (.plain (OpenSpec.upto fnExactParseChartSpec)) fnExactParseChartUptoCard

/-- THE SECOND FORM's CARD OF 'laws.FnExactChartText'. -/
def fnExactChartTextUptoCard : Claim7 := { stood := { row := fnExactChartTextUptoRow, standIns := [], harness := (true, "267671112f5ff1adbd507ea477d8b745587903763f0caa9454d302b70fe58f93"), looks := false }, kinds := [], alts := [], laidByText := true, laidKinds := [.data, .data, .data], laidTests := true, laidLooks := .later }
def FnExactChartTextUptoCardSaid : Prop := Claim7.holds Tryd.pinned (.plain (OpenSpec.upto fnExactChartTextSpec)) fnExactChartTextUptoCard
end Rows
end Go.Proofs.YtbfhfjpfjkdcfaaDoor
