/-
  No cell of these rows narrows 'for every input' (looked for: loops, veiled, ifaces, maps, wideKeys, modest, calm, conditions, laid).
  DERIVED. THE GIVEN ROWS OF THIS SEAT. 12 by the template 'for every input the law returns true; each argument reads behind the call as it read before'; 0 by the template 'total and deterministic' (their statements: YtccipfpbaeoggaaTotals.lean).
  GIVEN WITH THE SEED: the statements are not yours to turn. If you find one false, say at which input.
  Laid BY PROGRAM, IN A SANDBOX (cutbox-rows.mjs): the forced cells as the released guide's own fill.sh prints them over the translation 61e9303deee17d5e… (all of the seat's roots in one cut). By AI agents, Wed Nov 11 2026. No macro, syntax, notation, axiom, sorry.
-/
import Derived.Test.YtccipfpbaeoggaaChecked
import GoSem.Claim
import GoSem.ClaimJoined
import GoSem.ClaimMapViews
import Derived.JoinedTies
import Derived.KernelRfl
namespace Go.Proofs.Ytccipfpbaeoggaa
/- THE CELL 'sum', in the pinned program and in every row, IS THE sha256 OF THE DUMP (.gsa) THAT YtccipfpbaeoggaaProg.lean LOADS. Nothing in Lean hashes anything: it is a label: what it is worth is what the hold of that sum in a sandbox is worth. -/
noncomputable def Try.pinned : Pinned := { name := "ytccipfpbaeoggaa", sum := "61e9303deee17d5e69274931329a6e0a05a11590b58db0b9f1420c674630e442", checked := Try.checked }
namespace Rows
def none {H : Type} : Left H := { results := [], args := [] }

/-- 'laws.FnExactBoundsOf': WHATEVER THE INPUT: true; the input reads as it did. -/
def fnExactBoundsOfSpec : ChangeSpec := { name := "fnExactBoundsOf", fn := fun _ => fun
  | [d] => { results := [.lit (.bool true)], args := [d] }
  | _ => none }
def fnExactBoundsOfRow : OpenClaim := { program := "ytccipfpbaeoggaa", sum := "61e9303deee17d5e69274931329a6e0a05a11590b58db0b9f1420c674630e442", func := "loop.example/g00939/laws.FnExactBoundsOf", spec := "fnExactBoundsOf", apart := false }
def FnExactBoundsOfSaid : Prop := fnExactBoundsOfRow.holds Try.pinned (OpenSpec.ofChange fnExactBoundsOfSpec)

/-- ITS FALSE NEIGHBOUR: 'it returns false'. Refute it at one input. -/
def fnExactBoundsOfWrong : ChangeSpec := { name := "fnExactBoundsOf", fn := fun _ => fun
  | [d] => { results := [.lit (.bool false)], args := [d] }
  | _ => none }
def FnExactBoundsOfWrongFalsely : Prop := fnExactBoundsOfRow.holds Try.pinned (OpenSpec.ofChange fnExactBoundsOfWrong)

/-- 'laws.FnExactLineOf': WHATEVER THE INPUT: true; the input reads as it did. -/
def fnExactLineOfSpec : ChangeSpec := { name := "fnExactLineOf", fn := fun _ => fun
  | [d1, d2, d3] => { results := [.lit (.bool true)], args := [d1, d2, d3] }
  | _ => none }
def fnExactLineOfRow : OpenClaim := { program := "ytccipfpbaeoggaa", sum := "61e9303deee17d5e69274931329a6e0a05a11590b58db0b9f1420c674630e442", func := "loop.example/g00939/laws.FnExactLineOf", spec := "fnExactLineOf", apart := false }
def FnExactLineOfSaid : Prop := fnExactLineOfRow.holds Try.pinned (OpenSpec.ofChange fnExactLineOfSpec)

/-- ITS FALSE NEIGHBOUR: 'it returns false'. Refute it at one input. -/
def fnExactLineOfWrong : ChangeSpec := { name := "fnExactLineOf", fn := fun _ => fun
  | [d1, d2, d3] => { results := [.lit (.bool false)], args := [d1, d2, d3] }
  | _ => none }
def FnExactLineOfWrongFalsely : Prop := fnExactLineOfRow.holds Try.pinned (OpenSpec.ofChange fnExactLineOfWrong)

/-- 'laws.FnExactSpreadForm': WHATEVER THE INPUT: true; the input reads as it did. -/
def fnExactSpreadFormSpec : ChangeSpec := { name := "fnExactSpreadForm", fn := fun _ => fun
  | [d1, d2] => { results := [.lit (.bool true)], args := [d1, d2] }
  | _ => none }
def fnExactSpreadFormRow : OpenClaim := { program := "ytccipfpbaeoggaa", sum := "61e9303deee17d5e69274931329a6e0a05a11590b58db0b9f1420c674630e442", func := "loop.example/g00939/laws.FnExactSpreadForm", spec := "fnExactSpreadForm", apart := false }
def FnExactSpreadFormSaid : Prop := fnExactSpreadFormRow.holds Try.pinned (OpenSpec.ofChange fnExactSpreadFormSpec)

/-- ITS FALSE NEIGHBOUR: 'it returns false'. Refute it at one input. -/
def fnExactSpreadFormWrong : ChangeSpec := { name := "fnExactSpreadForm", fn := fun _ => fun
  | [d1, d2] => { results := [.lit (.bool false)], args := [d1, d2] }
  | _ => none }
def FnExactSpreadFormWrongFalsely : Prop := fnExactSpreadFormRow.holds Try.pinned (OpenSpec.ofChange fnExactSpreadFormWrong)

/-- 'laws.FnExactTurnForm': WHATEVER THE INPUT: true; the input reads as it did. -/
def fnExactTurnFormSpec : ChangeSpec := { name := "fnExactTurnForm", fn := fun _ => fun
  | [d1, d2] => { results := [.lit (.bool true)], args := [d1, d2] }
  | _ => none }
def fnExactTurnFormRow : OpenClaim := { program := "ytccipfpbaeoggaa", sum := "61e9303deee17d5e69274931329a6e0a05a11590b58db0b9f1420c674630e442", func := "loop.example/g00939/laws.FnExactTurnForm", spec := "fnExactTurnForm", apart := false }
def FnExactTurnFormSaid : Prop := fnExactTurnFormRow.holds Try.pinned (OpenSpec.ofChange fnExactTurnFormSpec)

/-- ITS FALSE NEIGHBOUR: 'it returns false'. Refute it at one input. -/
def fnExactTurnFormWrong : ChangeSpec := { name := "fnExactTurnForm", fn := fun _ => fun
  | [d1, d2] => { results := [.lit (.bool false)], args := [d1, d2] }
  | _ => none }
def FnExactTurnFormWrongFalsely : Prop := fnExactTurnFormRow.holds Try.pinned (OpenSpec.ofChange fnExactTurnFormWrong)

/-- 'laws.FnExactPolyLine': WHATEVER THE INPUT: true; the input reads as it did. -/
def fnExactPolyLineSpec : ChangeSpec := { name := "fnExactPolyLine", fn := fun _ => fun
  | [d1, d2] => { results := [.lit (.bool true)], args := [d1, d2] }
  | _ => none }
def fnExactPolyLineRow : OpenClaim := { program := "ytccipfpbaeoggaa", sum := "61e9303deee17d5e69274931329a6e0a05a11590b58db0b9f1420c674630e442", func := "loop.example/g00939/laws.FnExactPolyLine", spec := "fnExactPolyLine", apart := false }
def FnExactPolyLineSaid : Prop := fnExactPolyLineRow.holds Try.pinned (OpenSpec.ofChange fnExactPolyLineSpec)

/-- ITS FALSE NEIGHBOUR: 'it returns false'. Refute it at one input. -/
def fnExactPolyLineWrong : ChangeSpec := { name := "fnExactPolyLine", fn := fun _ => fun
  | [d1, d2] => { results := [.lit (.bool false)], args := [d1, d2] }
  | _ => none }
def FnExactPolyLineWrongFalsely : Prop := fnExactPolyLineRow.holds Try.pinned (OpenSpec.ofChange fnExactPolyLineWrong)

/-- 'laws.FnExactStayApart': WHATEVER THE INPUT: true; the input reads as it did. -/
def fnExactStayApartSpec : ChangeSpec := { name := "fnExactStayApart", fn := fun _ => fun
  | [d1, d2, d3] => { results := [.lit (.bool true)], args := [d1, d2, d3] }
  | _ => none }
def fnExactStayApartRow : OpenClaim := { program := "ytccipfpbaeoggaa", sum := "61e9303deee17d5e69274931329a6e0a05a11590b58db0b9f1420c674630e442", func := "loop.example/g00939/laws.FnExactStayApart", spec := "fnExactStayApart", apart := false }
def FnExactStayApartSaid : Prop := fnExactStayApartRow.holds Try.pinned (OpenSpec.ofChange fnExactStayApartSpec)

/-- ITS FALSE NEIGHBOUR: 'it returns false'. Refute it at one input. -/
def fnExactStayApartWrong : ChangeSpec := { name := "fnExactStayApart", fn := fun _ => fun
  | [d1, d2, d3] => { results := [.lit (.bool false)], args := [d1, d2, d3] }
  | _ => none }
def FnExactStayApartWrongFalsely : Prop := fnExactStayApartRow.holds Try.pinned (OpenSpec.ofChange fnExactStayApartWrong)

/-- 'laws.FnExactClosestMoves': WHATEVER THE INPUT: true; the input reads as it did. -/
def fnExactClosestMovesSpec : ChangeSpec := { name := "fnExactClosestMoves", fn := fun _ => fun
  | [d] => { results := [.lit (.bool true)], args := [d] }
  | _ => none }
def fnExactClosestMovesRow : OpenClaim := { program := "ytccipfpbaeoggaa", sum := "61e9303deee17d5e69274931329a6e0a05a11590b58db0b9f1420c674630e442", func := "loop.example/g00939/laws.FnExactClosestMoves", spec := "fnExactClosestMoves", apart := false }
def FnExactClosestMovesSaid : Prop := fnExactClosestMovesRow.holds Try.pinned (OpenSpec.ofChange fnExactClosestMovesSpec)

/-- ITS FALSE NEIGHBOUR: 'it returns false'. Refute it at one input. -/
def fnExactClosestMovesWrong : ChangeSpec := { name := "fnExactClosestMoves", fn := fun _ => fun
  | [d] => { results := [.lit (.bool false)], args := [d] }
  | _ => none }
def FnExactClosestMovesWrongFalsely : Prop := fnExactClosestMovesRow.holds Try.pinned (OpenSpec.ofChange fnExactClosestMovesWrong)

/-- 'laws.FnExactLeastOfAll': WHATEVER THE INPUT: true; the input reads as it did. -/
def fnExactLeastOfAllSpec : ChangeSpec := { name := "fnExactLeastOfAll", fn := fun _ => fun
  | [d] => { results := [.lit (.bool true)], args := [d] }
  | _ => none }
def fnExactLeastOfAllRow : OpenClaim := { program := "ytccipfpbaeoggaa", sum := "61e9303deee17d5e69274931329a6e0a05a11590b58db0b9f1420c674630e442", func := "loop.example/g00939/laws.FnExactLeastOfAll", spec := "fnExactLeastOfAll", apart := false }
def FnExactLeastOfAllSaid : Prop := fnExactLeastOfAllRow.holds Try.pinned (OpenSpec.ofChange fnExactLeastOfAllSpec)

/-- ITS FALSE NEIGHBOUR: 'it returns false'. Refute it at one input. -/
def fnExactLeastOfAllWrong : ChangeSpec := { name := "fnExactLeastOfAll", fn := fun _ => fun
  | [d] => { results := [.lit (.bool false)], args := [d] }
  | _ => none }
def FnExactLeastOfAllWrongFalsely : Prop := fnExactLeastOfAllRow.holds Try.pinned (OpenSpec.ofChange fnExactLeastOfAllWrong)

/-- 'laws.FnExactCloseMoves': WHATEVER THE INPUT: true; the input reads as it did. -/
def fnExactCloseMovesSpec : ChangeSpec := { name := "fnExactCloseMoves", fn := fun _ => fun
  | [d1, d2] => { results := [.lit (.bool true)], args := [d1, d2] }
  | _ => none }
def fnExactCloseMovesRow : OpenClaim := { program := "ytccipfpbaeoggaa", sum := "61e9303deee17d5e69274931329a6e0a05a11590b58db0b9f1420c674630e442", func := "loop.example/g00939/laws.FnExactCloseMoves", spec := "fnExactCloseMoves", apart := false }
def FnExactCloseMovesSaid : Prop := fnExactCloseMovesRow.holds Try.pinned (OpenSpec.ofChange fnExactCloseMovesSpec)

/-- ITS FALSE NEIGHBOUR: 'it returns false'. Refute it at one input. -/
def fnExactCloseMovesWrong : ChangeSpec := { name := "fnExactCloseMoves", fn := fun _ => fun
  | [d1, d2] => { results := [.lit (.bool false)], args := [d1, d2] }
  | _ => none }
def FnExactCloseMovesWrongFalsely : Prop := fnExactCloseMovesRow.holds Try.pinned (OpenSpec.ofChange fnExactCloseMovesWrong)

/-- 'laws.FnExactIsTransition': WHATEVER THE INPUT: true; the input reads as it did. -/
def fnExactIsTransitionSpec : ChangeSpec := { name := "fnExactIsTransition", fn := fun _ => fun
  | [d] => { results := [.lit (.bool true)], args := [d] }
  | _ => none }
def fnExactIsTransitionRow : OpenClaim := { program := "ytccipfpbaeoggaa", sum := "61e9303deee17d5e69274931329a6e0a05a11590b58db0b9f1420c674630e442", func := "loop.example/g00939/laws.FnExactIsTransition", spec := "fnExactIsTransition", apart := false }
def FnExactIsTransitionSaid : Prop := fnExactIsTransitionRow.holds Try.pinned (OpenSpec.ofChange fnExactIsTransitionSpec)

/-- ITS FALSE NEIGHBOUR: 'it returns false'. Refute it at one input. -/
def fnExactIsTransitionWrong : ChangeSpec := { name := "fnExactIsTransition", fn := fun _ => fun
  | [d] => { results := [.lit (.bool false)], args := [d] }
  | _ => none }
def FnExactIsTransitionWrongFalsely : Prop := fnExactIsTransitionRow.holds Try.pinned (OpenSpec.ofChange fnExactIsTransitionWrong)

/-- 'laws.FnExactPlainTransition': WHATEVER THE INPUT: true; the input reads as it did. -/
def fnExactPlainTransitionSpec : ChangeSpec := { name := "fnExactPlainTransition", fn := fun _ => fun
  | [d1, d2, d3] => { results := [.lit (.bool true)], args := [d1, d2, d3] }
  | _ => none }
def fnExactPlainTransitionRow : OpenClaim := { program := "ytccipfpbaeoggaa", sum := "61e9303deee17d5e69274931329a6e0a05a11590b58db0b9f1420c674630e442", func := "loop.example/g00939/laws.FnExactPlainTransition", spec := "fnExactPlainTransition", apart := false }
def FnExactPlainTransitionSaid : Prop := fnExactPlainTransitionRow.holds Try.pinned (OpenSpec.ofChange fnExactPlainTransitionSpec)

/-- ITS FALSE NEIGHBOUR: 'it returns false'. Refute it at one input. -/
def fnExactPlainTransitionWrong : ChangeSpec := { name := "fnExactPlainTransition", fn := fun _ => fun
  | [d1, d2, d3] => { results := [.lit (.bool false)], args := [d1, d2, d3] }
  | _ => none }
def FnExactPlainTransitionWrongFalsely : Prop := fnExactPlainTransitionRow.holds Try.pinned (OpenSpec.ofChange fnExactPlainTransitionWrong)

/-- 'laws.FnExactArrivesAs': WHATEVER THE INPUT: true; the input reads as it did. -/
def fnExactArrivesAsSpec : ChangeSpec := { name := "fnExactArrivesAs", fn := fun _ => fun
  | [d] => { results := [.lit (.bool true)], args := [d] }
  | _ => none }
def fnExactArrivesAsRow : OpenClaim := { program := "ytccipfpbaeoggaa", sum := "61e9303deee17d5e69274931329a6e0a05a11590b58db0b9f1420c674630e442", func := "loop.example/g00939/laws.FnExactArrivesAs", spec := "fnExactArrivesAs", apart := false }
def FnExactArrivesAsSaid : Prop := fnExactArrivesAsRow.holds Try.pinned (OpenSpec.ofChange fnExactArrivesAsSpec)

/-- ITS FALSE NEIGHBOUR: 'it returns false'. Refute it at one input. -/
def fnExactArrivesAsWrong : ChangeSpec := { name := "fnExactArrivesAs", fn := fun _ => fun
  | [d] => { results := [.lit (.bool false)], args := [d] }
  | _ => none }
def FnExactArrivesAsWrongFalsely : Prop := fnExactArrivesAsRow.holds Try.pinned (OpenSpec.ofChange fnExactArrivesAsWrong)

/- THE SECOND FORM. 'bulk': how many values and letters a reading holds, each counted each time it is reached (what is shared counts as often as it is met; a slice's spare places count too). A statement '..UptoSaid' is the law's where the arguments, and the package variables that the reading takes, are together of bulk at most 1048576: NARROWER than '..Said'. Prove '..Said' where nothing that the law and all that it calls make is longer than what came in: it says more and counts as full. Else prove '..UptoSaid'. A law counts once. -/
mutual
def uptoBulk {H : Type} : DataW H → Nat
  | .lit (.string bytes) => bytes.length + 1
  | .lit _ => 1
  | .nil => 1
  | .ptr d => uptoBulk d + 1
  | .slice elems spare => uptoBulkAll elems + uptoBulkAll spare + 1
  | .agg parts => uptoBulkAll parts + 1
  | .iface _ d => uptoBulk d + 1
  | .map entries => uptoBulkEntries entries + 1
  | .held _ => 1
def uptoBulkAll {H : Type} : List (DataW H) → Nat
  | [] => 0
  | d :: r => uptoBulk d + uptoBulkAll r
def uptoBulkEntries {H : Type} : List (Lit × DataW H) → Nat
  | [] => 0
  | x :: r => uptoBulkEntry x + uptoBulkEntries r
def uptoBulkEntry {H : Type} : Lit × DataW H → Nat
  | (.string bytes, d) => bytes.length + uptoBulk d + 1
  | (_, d) => uptoBulk d + 1
 end
def uptoSmall : (H : Type) → List (DataW H) → Bool := fun _ ds => decide (uptoBulkAll ds ≤ 1048576)
def OpenSpec.upto (s : _root_.Go.ChangeSpec) : _root_.Go.OpenSpec := { _root_.Go.OpenSpec.ofChange s with cond := some uptoSmall }

/-- 'laws.FnExactBoundsOf', WHERE WHAT IT READS IS OF BULK AT MOST 1048576: true; the input reads as it did. -/
def fnExactBoundsOfUptoRow : OpenClaim := { program := "ytccipfpbaeoggaa", sum := "61e9303deee17d5e69274931329a6e0a05a11590b58db0b9f1420c674630e442", func := "loop.example/g00939/laws.FnExactBoundsOf", spec := "fnExactBoundsOf", apart := false, narrowed := true }
def FnExactBoundsOfUptoSaid : Prop := fnExactBoundsOfUptoRow.holds Try.pinned (OpenSpec.upto fnExactBoundsOfSpec)

/-- 'laws.FnExactLineOf', WHERE WHAT IT READS IS OF BULK AT MOST 1048576: true; the input reads as it did. -/
def fnExactLineOfUptoRow : OpenClaim := { program := "ytccipfpbaeoggaa", sum := "61e9303deee17d5e69274931329a6e0a05a11590b58db0b9f1420c674630e442", func := "loop.example/g00939/laws.FnExactLineOf", spec := "fnExactLineOf", apart := false, narrowed := true }
def FnExactLineOfUptoSaid : Prop := fnExactLineOfUptoRow.holds Try.pinned (OpenSpec.upto fnExactLineOfSpec)

/-- 'laws.FnExactSpreadForm', WHERE WHAT IT READS IS OF BULK AT MOST 1048576: true; the input reads as it did. -/
def fnExactSpreadFormUptoRow : OpenClaim := { program := "ytccipfpbaeoggaa", sum := "61e9303deee17d5e69274931329a6e0a05a11590b58db0b9f1420c674630e442", func := "loop.example/g00939/laws.FnExactSpreadForm", spec := "fnExactSpreadForm", apart := false, narrowed := true }
def FnExactSpreadFormUptoSaid : Prop := fnExactSpreadFormUptoRow.holds Try.pinned (OpenSpec.upto fnExactSpreadFormSpec)

/-- 'laws.FnExactTurnForm', WHERE WHAT IT READS IS OF BULK AT MOST 1048576: true; the input reads as it did. -/
def fnExactTurnFormUptoRow : OpenClaim := { program := "ytccipfpbaeoggaa", sum := "61e9303deee17d5e69274931329a6e0a05a11590b58db0b9f1420c674630e442", func := "loop.example/g00939/laws.FnExactTurnForm", spec := "fnExactTurnForm", apart := false, narrowed := true }
def FnExactTurnFormUptoSaid : Prop := fnExactTurnFormUptoRow.holds Try.pinned (OpenSpec.upto fnExactTurnFormSpec)

/-- 'laws.FnExactPolyLine', WHERE WHAT IT READS IS OF BULK AT MOST 1048576: true; the input reads as it did. -/
def fnExactPolyLineUptoRow : OpenClaim := { program := "ytccipfpbaeoggaa", sum := "61e9303deee17d5e69274931329a6e0a05a11590b58db0b9f1420c674630e442", func := "loop.example/g00939/laws.FnExactPolyLine", spec := "fnExactPolyLine", apart := false, narrowed := true }
def FnExactPolyLineUptoSaid : Prop := fnExactPolyLineUptoRow.holds Try.pinned (OpenSpec.upto fnExactPolyLineSpec)

/-- 'laws.FnExactStayApart', WHERE WHAT IT READS IS OF BULK AT MOST 1048576: true; the input reads as it did. -/
def fnExactStayApartUptoRow : OpenClaim := { program := "ytccipfpbaeoggaa", sum := "61e9303deee17d5e69274931329a6e0a05a11590b58db0b9f1420c674630e442", func := "loop.example/g00939/laws.FnExactStayApart", spec := "fnExactStayApart", apart := false, narrowed := true }
def FnExactStayApartUptoSaid : Prop := fnExactStayApartUptoRow.holds Try.pinned (OpenSpec.upto fnExactStayApartSpec)

/-- 'laws.FnExactClosestMoves', WHERE WHAT IT READS IS OF BULK AT MOST 1048576: true; the input reads as it did. -/
def fnExactClosestMovesUptoRow : OpenClaim := { program := "ytccipfpbaeoggaa", sum := "61e9303deee17d5e69274931329a6e0a05a11590b58db0b9f1420c674630e442", func := "loop.example/g00939/laws.FnExactClosestMoves", spec := "fnExactClosestMoves", apart := false, narrowed := true }
def FnExactClosestMovesUptoSaid : Prop := fnExactClosestMovesUptoRow.holds Try.pinned (OpenSpec.upto fnExactClosestMovesSpec)

/-- 'laws.FnExactLeastOfAll', WHERE WHAT IT READS IS OF BULK AT MOST 1048576: true; the input reads as it did. -/
def fnExactLeastOfAllUptoRow : OpenClaim := { program := "ytccipfpbaeoggaa", sum := "61e9303deee17d5e69274931329a6e0a05a11590b58db0b9f1420c674630e442", func := "loop.example/g00939/laws.FnExactLeastOfAll", spec := "fnExactLeastOfAll", apart := false, narrowed := true }
def FnExactLeastOfAllUptoSaid : Prop := fnExactLeastOfAllUptoRow.holds Try.pinned (OpenSpec.upto fnExactLeastOfAllSpec)

/-- 'laws.FnExactCloseMoves', WHERE WHAT IT READS IS OF BULK AT MOST 1048576: true; the input reads as it did. -/
def fnExactCloseMovesUptoRow : OpenClaim := { program := "ytccipfpbaeoggaa", sum := "61e9303deee17d5e69274931329a6e0a05a11590b58db0b9f1420c674630e442", func := "loop.example/g00939/laws.FnExactCloseMoves", spec := "fnExactCloseMoves", apart := false, narrowed := true }
def FnExactCloseMovesUptoSaid : Prop := fnExactCloseMovesUptoRow.holds Try.pinned (OpenSpec.upto fnExactCloseMovesSpec)

/-- 'laws.FnExactIsTransition', WHERE WHAT IT READS IS OF BULK AT MOST 1048576: true; the input reads as it did. -/
def fnExactIsTransitionUptoRow : OpenClaim := { program := "ytccipfpbaeoggaa", sum := "61e9303deee17d5e69274931329a6e0a05a11590b58db0b9f1420c674630e442", func := "loop.example/g00939/laws.FnExactIsTransition", spec := "fnExactIsTransition", apart := false, narrowed := true }
def FnExactIsTransitionUptoSaid : Prop := fnExactIsTransitionUptoRow.holds Try.pinned (OpenSpec.upto fnExactIsTransitionSpec)

/-- 'laws.FnExactPlainTransition', WHERE WHAT IT READS IS OF BULK AT MOST 1048576: true; the input reads as it did. -/
def fnExactPlainTransitionUptoRow : OpenClaim := { program := "ytccipfpbaeoggaa", sum := "61e9303deee17d5e69274931329a6e0a05a11590b58db0b9f1420c674630e442", func := "loop.example/g00939/laws.FnExactPlainTransition", spec := "fnExactPlainTransition", apart := false, narrowed := true }
def FnExactPlainTransitionUptoSaid : Prop := fnExactPlainTransitionUptoRow.holds Try.pinned (OpenSpec.upto fnExactPlainTransitionSpec)

/-- 'laws.FnExactArrivesAs', WHERE WHAT IT READS IS OF BULK AT MOST 1048576: true; the input reads as it did. -/
def fnExactArrivesAsUptoRow : OpenClaim := { program := "ytccipfpbaeoggaa", sum := "61e9303deee17d5e69274931329a6e0a05a11590b58db0b9f1420c674630e442", func := "loop.example/g00939/laws.FnExactArrivesAs", spec := "fnExactArrivesAs", apart := false, narrowed := true }
def FnExactArrivesAsUptoSaid : Prop := fnExactArrivesAsUptoRow.holds Try.pinned (OpenSpec.upto fnExactArrivesAsSpec)

end Rows
end Go.Proofs.Ytccipfpbaeoggaa
