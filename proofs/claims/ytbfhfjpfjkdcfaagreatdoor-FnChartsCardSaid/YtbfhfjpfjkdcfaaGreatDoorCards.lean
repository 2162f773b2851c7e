/-
  DERIVED. GIVEN WITH THE SEED: THE CARDS: each row of YtbfhfjpfjkdcfaaGreatDoorRows.lean that lists a variable, with what it lists TIED to the program's text (the seventh form; the later family's looks); each row that meets fmt, with fmt's text TOLD by the authors' own Lean function (tested against real Go, not proved from fmt's source: count such statements apart). THE CARD IS WHAT COUNTS. Prove the row's statement (the work); the ties are given (YtbfhfjpfjkdcfaaGreatDoorTie.lean); close each card by the builder's one call (the guide's Derived/Test/ToyasCard.lean, 'card_holds'). Laid BY PROGRAM, IN A SANDBOX (cutbox-door.mjs). By AI agents, Wed Nov 11 2026. No macro, syntax, notation, axiom, sorry.
-/
import Derived.Test.YtbfhfjpfjkdcfaaGreatDoorRows
import GoSem.ClaimSeven
namespace Go.Proofs.YtbfhfjpfjkdcfaaGreatDoor
namespace Rows

/-- THE TIED CARD OF 'laws.FnCharts'. -/
def fnChartsCard : Claim7 := { stood := { row := fnChartsRow, standIns := [], harness := (true, "0c4c58f6d314724c0633a0a5d5715812ae12197d50747e96d4e644f0730ebc6e"), looks := false }, kinds := [], alts := [], laidByText := true, laidKinds := [.data, .data, .data, .data, .pinned], laidTests := true, laidLooks := .later }
def FnChartsCardSaid : Prop := Claim7.holds Tryz.pinned (.plain (OpenSpec.ofChange fnChartsSpec)) fnChartsCard

/-- THE SECOND FORM's CARD OF 'laws.FnCharts'. -/
def fnChartsUptoCard : Claim7 := { stood := { row := fnChartsUptoRow, standIns := [], harness := (true, "0c4c58f6d314724c0633a0a5d5715812ae12197d50747e96d4e644f0730ebc6e"), looks := false }, kinds := [], alts := [], laidByText := true, laidKinds := [.data, .data, .data, .data, .pinned], laidTests := true, laidLooks := .later }
def FnChartsUptoCardSaid : Prop := Claim7.holds Tryz.pinned (.plain (OpenSpec.upto fnChartsSpec)) fnChartsUptoCard
end Rows
end Go.Proofs.YtbfhfjpfjkdcfaaGreatDoor
