/-
  No cell of these rows narrows 'for every input' (looked for: loops, veiled, ifaces, maps, wideKeys, modest, calm, conditions, laid).
  DERIVED. THE GIVEN ROWS OF THIS SEAT. 12 by the template 'for every input the law returns true; each argument reads behind the call as it read before'; 0 by the template 'total and deterministic' (their statements: YthpflpjhohmboaaTotals.lean).
  GIVEN WITH THE SEED: the statements are not yours to turn. If you find one false, say at which input.
  Laid BY PROGRAM, IN A SANDBOX (cutbox-rows.mjs): the forced cells as the released guide's own fill.sh prints them over the translation d258f6de686fdd0b… (all of the seat's roots in one cut). By AI agents, Wed Nov 11 2026. No macro, syntax, notation, axiom, sorry.
-/
import Derived.Test.YthpflpjhohmboaaChecked
import GoSem.Claim
import GoSem.ClaimJoined
import GoSem.ClaimMapViews
import Derived.JoinedTies
import Derived.KernelRfl
namespace Go.Proofs.Ythpflpjhohmboaa
/- THE CELL 'sum', in the pinned program and in every row, IS THE sha256 OF THE DUMP (.gsa) THAT YthpflpjhohmboaaProg.lean LOADS. Nothing in Lean hashes anything: it is a label: what it is worth is what the hold of that sum in a sandbox is worth. -/
noncomputable def Try.pinned : Pinned := { name := "ythpflpjhohmboaa", sum := "d258f6de686fdd0bf83c2847512bc33f70b546d6e2c5e549e3a321b403798256", checked := Try.checked }
namespace Rows
def none {H : Type} : Left H := { results := [], args := [] }

/-- 'laws.FnExactClosestPair': WHATEVER THE INPUT: true; the input reads as it did. -/
def fnExactClosestPairSpec : ChangeSpec := { name := "fnExactClosestPair", fn := fun _ => fun
  | [d] => { results := [.lit (.bool true)], args := [d] }
  | _ => none }
def fnExactClosestPairRow : OpenClaim := { program := "ythpflpjhohmboaa", sum := "d258f6de686fdd0bf83c2847512bc33f70b546d6e2c5e549e3a321b403798256", func := "loop.example/g00939/laws.FnExactClosestPair", spec := "fnExactClosestPair", apart := false }
def FnExactClosestPairSaid : Prop := fnExactClosestPairRow.holds Try.pinned (OpenSpec.ofChange fnExactClosestPairSpec)

/-- ITS FALSE NEIGHBOUR: 'it returns false'. Refute it at one input. -/
def fnExactClosestPairWrong : ChangeSpec := { name := "fnExactClosestPair", fn := fun _ => fun
  | [d] => { results := [.lit (.bool false)], args := [d] }
  | _ => none }
def FnExactClosestPairWrongFalsely : Prop := fnExactClosestPairRow.holds Try.pinned (OpenSpec.ofChange fnExactClosestPairWrong)

/-- 'laws.FnExactLeastSquare': WHATEVER THE INPUT: true; the input reads as it did. -/
def fnExactLeastSquareSpec : ChangeSpec := { name := "fnExactLeastSquare", fn := fun _ => fun
  | [d] => { results := [.lit (.bool true)], args := [d] }
  | _ => none }
def fnExactLeastSquareRow : OpenClaim := { program := "ythpflpjhohmboaa", sum := "d258f6de686fdd0bf83c2847512bc33f70b546d6e2c5e549e3a321b403798256", func := "loop.example/g00939/laws.FnExactLeastSquare", spec := "fnExactLeastSquare", apart := false }
def FnExactLeastSquareSaid : Prop := fnExactLeastSquareRow.holds Try.pinned (OpenSpec.ofChange fnExactLeastSquareSpec)

/-- ITS FALSE NEIGHBOUR: 'it returns false'. Refute it at one input. -/
def fnExactLeastSquareWrong : ChangeSpec := { name := "fnExactLeastSquare", fn := fun _ => fun
  | [d] => { results := [.lit (.bool false)], args := [d] }
  | _ => none }
def FnExactLeastSquareWrongFalsely : Prop := fnExactLeastSquareRow.holds Try.pinned (OpenSpec.ofChange fnExactLeastSquareWrong)

/-- 'laws.FnExactSwapPerformers': WHATEVER THE INPUT: true; the input reads as it did. -/
def fnExactSwapPerformersSpec : ChangeSpec := { name := "fnExactSwapPerformers", fn := fun _ => fun
  | [d1, d2, d3] => { results := [.lit (.bool true)], args := [d1, d2, d3] }
  | _ => none }
def fnExactSwapPerformersRow : OpenClaim := { program := "ythpflpjhohmboaa", sum := "d258f6de686fdd0bf83c2847512bc33f70b546d6e2c5e549e3a321b403798256", func := "loop.example/g00939/laws.FnExactSwapPerformers", spec := "fnExactSwapPerformers", apart := false }
def FnExactSwapPerformersSaid : Prop := fnExactSwapPerformersRow.holds Try.pinned (OpenSpec.ofChange fnExactSwapPerformersSpec)

/-- ITS FALSE NEIGHBOUR: 'it returns false'. Refute it at one input. -/
def fnExactSwapPerformersWrong : ChangeSpec := { name := "fnExactSwapPerformers", fn := fun _ => fun
  | [d1, d2, d3] => { results := [.lit (.bool false)], args := [d1, d2, d3] }
  | _ => none }
def FnExactSwapPerformersWrongFalsely : Prop := fnExactSwapPerformersRow.holds Try.pinned (OpenSpec.ofChange fnExactSwapPerformersWrong)

/-- 'laws.FnExactMirrorChart': WHATEVER THE INPUT: true; the input reads as it did. -/
def fnExactMirrorChartSpec : ChangeSpec := { name := "fnExactMirrorChart", fn := fun _ => fun
  | [d] => { results := [.lit (.bool true)], args := [d] }
  | _ => none }
def fnExactMirrorChartRow : OpenClaim := { program := "ythpflpjhohmboaa", sum := "d258f6de686fdd0bf83c2847512bc33f70b546d6e2c5e549e3a321b403798256", func := "loop.example/g00939/laws.FnExactMirrorChart", spec := "fnExactMirrorChart", apart := false }
def FnExactMirrorChartSaid : Prop := fnExactMirrorChartRow.holds Try.pinned (OpenSpec.ofChange fnExactMirrorChartSpec)

/-- ITS FALSE NEIGHBOUR: 'it returns false'. Refute it at one input. -/
def fnExactMirrorChartWrong : ChangeSpec := { name := "fnExactMirrorChart", fn := fun _ => fun
  | [d] => { results := [.lit (.bool false)], args := [d] }
  | _ => none }
def FnExactMirrorChartWrongFalsely : Prop := fnExactMirrorChartRow.holds Try.pinned (OpenSpec.ofChange fnExactMirrorChartWrong)

/-- 'laws.FnExactWedgeOf': WHATEVER THE INPUT: true; the input reads as it did. -/
def fnExactWedgeOfSpec : ChangeSpec := { name := "fnExactWedgeOf", fn := fun _ => fun
  | [d1, d2, d3, d4] => { results := [.lit (.bool true)], args := [d1, d2, d3, d4] }
  | _ => none }
def fnExactWedgeOfRow : OpenClaim := { program := "ythpflpjhohmboaa", sum := "d258f6de686fdd0bf83c2847512bc33f70b546d6e2c5e549e3a321b403798256", func := "loop.example/g00939/laws.FnExactWedgeOf", spec := "fnExactWedgeOf", apart := false }
def FnExactWedgeOfSaid : Prop := fnExactWedgeOfRow.holds Try.pinned (OpenSpec.ofChange fnExactWedgeOfSpec)

/-- ITS FALSE NEIGHBOUR: 'it returns false'. Refute it at one input. -/
def fnExactWedgeOfWrong : ChangeSpec := { name := "fnExactWedgeOf", fn := fun _ => fun
  | [d1, d2, d3, d4] => { results := [.lit (.bool false)], args := [d1, d2, d3, d4] }
  | _ => none }
def FnExactWedgeOfWrongFalsely : Prop := fnExactWedgeOfRow.holds Try.pinned (OpenSpec.ofChange fnExactWedgeOfWrong)

/-- 'laws.FnExactMiddleSpot': WHATEVER THE INPUT: true; the input reads as it did. -/
def fnExactMiddleSpotSpec : ChangeSpec := { name := "fnExactMiddleSpot", fn := fun _ => fun
  | [d] => { results := [.lit (.bool true)], args := [d] }
  | _ => none }
def fnExactMiddleSpotRow : OpenClaim := { program := "ythpflpjhohmboaa", sum := "d258f6de686fdd0bf83c2847512bc33f70b546d6e2c5e549e3a321b403798256", func := "loop.example/g00939/laws.FnExactMiddleSpot", spec := "fnExactMiddleSpot", apart := false }
def FnExactMiddleSpotSaid : Prop := fnExactMiddleSpotRow.holds Try.pinned (OpenSpec.ofChange fnExactMiddleSpotSpec)

/-- ITS FALSE NEIGHBOUR: 'it returns false'. Refute it at one input. -/
def fnExactMiddleSpotWrong : ChangeSpec := { name := "fnExactMiddleSpot", fn := fun _ => fun
  | [d] => { results := [.lit (.bool false)], args := [d] }
  | _ => none }
def FnExactMiddleSpotWrongFalsely : Prop := fnExactMiddleSpotRow.holds Try.pinned (OpenSpec.ofChange fnExactMiddleSpotWrong)

/-- 'laws.FnExactBlockOf': WHATEVER THE INPUT: true; the input reads as it did. -/
def fnExactBlockOfSpec : ChangeSpec := { name := "fnExactBlockOf", fn := fun _ => fun
  | [d1, d2, d3, d4, d5] => { results := [.lit (.bool true)], args := [d1, d2, d3, d4, d5] }
  | _ => none }
def fnExactBlockOfRow : OpenClaim := { program := "ythpflpjhohmboaa", sum := "d258f6de686fdd0bf83c2847512bc33f70b546d6e2c5e549e3a321b403798256", func := "loop.example/g00939/laws.FnExactBlockOf", spec := "fnExactBlockOf", apart := false }
def FnExactBlockOfSaid : Prop := fnExactBlockOfRow.holds Try.pinned (OpenSpec.ofChange fnExactBlockOfSpec)

/-- ITS FALSE NEIGHBOUR: 'it returns false'. Refute it at one input. -/
def fnExactBlockOfWrong : ChangeSpec := { name := "fnExactBlockOf", fn := fun _ => fun
  | [d1, d2, d3, d4, d5] => { results := [.lit (.bool false)], args := [d1, d2, d3, d4, d5] }
  | _ => none }
def FnExactBlockOfWrongFalsely : Prop := fnExactBlockOfRow.holds Try.pinned (OpenSpec.ofChange fnExactBlockOfWrong)

/-- 'laws.FnExactJoinForms': WHATEVER THE INPUT: true; the input reads as it did. -/
def fnExactJoinFormsSpec : ChangeSpec := { name := "fnExactJoinForms", fn := fun _ => fun
  | [d1, d2] => { results := [.lit (.bool true)], args := [d1, d2] }
  | _ => none }
def fnExactJoinFormsRow : OpenClaim := { program := "ythpflpjhohmboaa", sum := "d258f6de686fdd0bf83c2847512bc33f70b546d6e2c5e549e3a321b403798256", func := "loop.example/g00939/laws.FnExactJoinForms", spec := "fnExactJoinForms", apart := false }
def FnExactJoinFormsSaid : Prop := fnExactJoinFormsRow.holds Try.pinned (OpenSpec.ofChange fnExactJoinFormsSpec)

/-- ITS FALSE NEIGHBOUR: 'it returns false'. Refute it at one input. -/
def fnExactJoinFormsWrong : ChangeSpec := { name := "fnExactJoinForms", fn := fun _ => fun
  | [d1, d2] => { results := [.lit (.bool false)], args := [d1, d2] }
  | _ => none }
def FnExactJoinFormsWrongFalsely : Prop := fnExactJoinFormsRow.holds Try.pinned (OpenSpec.ofChange fnExactJoinFormsWrong)

/-- 'laws.FnExactPlacePerformer': WHATEVER THE INPUT: true; the input reads as it did. -/
def fnExactPlacePerformerSpec : ChangeSpec := { name := "fnExactPlacePerformer", fn := fun _ => fun
  | [d1, d2, d3] => { results := [.lit (.bool true)], args := [d1, d2, d3] }
  | _ => none }
def fnExactPlacePerformerRow : OpenClaim := { program := "ythpflpjhohmboaa", sum := "d258f6de686fdd0bf83c2847512bc33f70b546d6e2c5e549e3a321b403798256", func := "loop.example/g00939/laws.FnExactPlacePerformer", spec := "fnExactPlacePerformer", apart := false }
def FnExactPlacePerformerSaid : Prop := fnExactPlacePerformerRow.holds Try.pinned (OpenSpec.ofChange fnExactPlacePerformerSpec)

/-- ITS FALSE NEIGHBOUR: 'it returns false'. Refute it at one input. -/
def fnExactPlacePerformerWrong : ChangeSpec := { name := "fnExactPlacePerformer", fn := fun _ => fun
  | [d1, d2, d3] => { results := [.lit (.bool false)], args := [d1, d2, d3] }
  | _ => none }
def FnExactPlacePerformerWrongFalsely : Prop := fnExactPlacePerformerRow.holds Try.pinned (OpenSpec.ofChange fnExactPlacePerformerWrong)

/-- 'laws.FnExactInnerRoom': WHATEVER THE INPUT: true; the input reads as it did. -/
def fnExactInnerRoomSpec : ChangeSpec := { name := "fnExactInnerRoom", fn := fun _ => fun
  | [d] => { results := [.lit (.bool true)], args := [d] }
  | _ => none }
def fnExactInnerRoomRow : OpenClaim := { program := "ythpflpjhohmboaa", sum := "d258f6de686fdd0bf83c2847512bc33f70b546d6e2c5e549e3a321b403798256", func := "loop.example/g00939/laws.FnExactInnerRoom", spec := "fnExactInnerRoom", apart := false }
def FnExactInnerRoomSaid : Prop := fnExactInnerRoomRow.holds Try.pinned (OpenSpec.ofChange fnExactInnerRoomSpec)

/-- ITS FALSE NEIGHBOUR: 'it returns false'. Refute it at one input. -/
def fnExactInnerRoomWrong : ChangeSpec := { name := "fnExactInnerRoom", fn := fun _ => fun
  | [d] => { results := [.lit (.bool false)], args := [d] }
  | _ => none }
def FnExactInnerRoomWrongFalsely : Prop := fnExactInnerRoomRow.holds Try.pinned (OpenSpec.ofChange fnExactInnerRoomWrong)

/-- 'laws.FnExactChangedSpots': WHATEVER THE INPUT: true; the input reads as it did. -/
def fnExactChangedSpotsSpec : ChangeSpec := { name := "fnExactChangedSpots", fn := fun _ => fun
  | [d1, d2] => { results := [.lit (.bool true)], args := [d1, d2] }
  | _ => none }
def fnExactChangedSpotsRow : OpenClaim := { program := "ythpflpjhohmboaa", sum := "d258f6de686fdd0bf83c2847512bc33f70b546d6e2c5e549e3a321b403798256", func := "loop.example/g00939/laws.FnExactChangedSpots", spec := "fnExactChangedSpots", apart := false }
def FnExactChangedSpotsSaid : Prop := fnExactChangedSpotsRow.holds Try.pinned (OpenSpec.ofChange fnExactChangedSpotsSpec)

/-- ITS FALSE NEIGHBOUR: 'it returns false'. Refute it at one input. -/
def fnExactChangedSpotsWrong : ChangeSpec := { name := "fnExactChangedSpots", fn := fun _ => fun
  | [d1, d2] => { results := [.lit (.bool false)], args := [d1, d2] }
  | _ => none }
def FnExactChangedSpotsWrongFalsely : Prop := fnExactChangedSpotsRow.holds Try.pinned (OpenSpec.ofChange fnExactChangedSpotsWrong)

/-- 'laws.FnExactMoveChart': WHATEVER THE INPUT: true; the input reads as it did. -/
def fnExactMoveChartSpec : ChangeSpec := { name := "fnExactMoveChart", fn := fun _ => fun
  | [d1, d2, d3] => { results := [.lit (.bool true)], args := [d1, d2, d3] }
  | _ => none }
def fnExactMoveChartRow : OpenClaim := { program := "ythpflpjhohmboaa", sum := "d258f6de686fdd0bf83c2847512bc33f70b546d6e2c5e549e3a321b403798256", func := "loop.example/g00939/laws.FnExactMoveChart", spec := "fnExactMoveChart", apart := false }
def FnExactMoveChartSaid : Prop := fnExactMoveChartRow.holds Try.pinned (OpenSpec.ofChange fnExactMoveChartSpec)

/-- ITS FALSE NEIGHBOUR: 'it returns false'. Refute it at one input. -/
def fnExactMoveChartWrong : ChangeSpec := { name := "fnExactMoveChart", fn := fun _ => fun
  | [d1, d2, d3] => { results := [.lit (.bool false)], args := [d1, d2, d3] }
  | _ => none }
def FnExactMoveChartWrongFalsely : Prop := fnExactMoveChartRow.holds Try.pinned (OpenSpec.ofChange fnExactMoveChartWrong)

/- THE SECOND FORM. 'bulk': how many values and letters a reading holds, each counted each time it is reached (what is shared counts as often as it is met; a slice's spare places count too). A statement '..UptoSaid' is the law's where the arguments, and the package variables that the reading takes, are together of bulk at most 1048576: NARROWER than '..Said'. Prove '..Said' where nothing that the law and all that it calls make is longer than what came in: it says more and counts as full. Else prove '..UptoSaid'. A law counts once. -/
mutual
def uptoBulk {H : Type} : DataW H → Nat
  | .lit (.string bytes) => bytes.length + 1
  | .lit _ => 1
  | .nil => 1
  | .ptr d => uptoBulk d + 1
  | .slice elems spare => uptoBulkAll elems + uptoBulkAll spare + 1
  | .agg parts => uptoBulkAll parts + 1
  | .iface _ d => uptoBulk d + 1
  | .map entries => uptoBulkEntries entries + 1
  | .held _ => 1
def uptoBulkAll {H : Type} : List (DataW H) → Nat
  | [] => 0
  | d :: r => uptoBulk d + uptoBulkAll r
def uptoBulkEntries {H : Type} : List (Lit × DataW H) → Nat
  | [] => 0
  | x :: r => uptoBulkEntry x + uptoBulkEntries r
def uptoBulkEntry {H : Type} : Lit × DataW H → Nat
  | (.string bytes, d) => bytes.length + uptoBulk d + 1
  | (_, d) => uptoBulk d + 1
 end
def uptoSmall : (H : Type) → List (DataW H) → Bool := fun _ ds => decide (uptoBulkAll ds ≤ 1048576)
def OpenSpec.upto (s : _root_.Go.ChangeSpec) : _root_.Go.OpenSpec := { _root_.Go.OpenSpec.ofChange s with cond := some uptoSmall }

/-- 'laws.FnExactClosestPair', WHERE WHAT IT READS IS OF BULK AT MOST 1048576: true; the input reads as it did. -/
def fnExactClosestPairUptoRow : OpenClaim := { program := "ythpflpjhohmboaa", sum := "d258f6de686fdd0bf83c2847512bc33f70b546d6e2c5e549e3a321b403798256", func := "loop.example/g00939/laws.FnExactClosestPair", spec := "fnExactClosestPair", apart := false, narrowed := true }
def FnExactClosestPairUptoSaid : Prop := fnExactClosestPairUptoRow.holds Try.pinned (OpenSpec.upto fnExactClosestPairSpec)

/-- 'laws.FnExactLeastSquare', WHERE WHAT IT READS IS OF BULK AT MOST 1048576: true; the input reads as it did. -/
def fnExactLeastSquareUptoRow : OpenClaim := { program := "ythpflpjhohmboaa", sum := "d258f6de686fdd0bf83c2847512bc33f70b546d6e2c5e549e3a321b403798256", func := "loop.example/g00939/laws.FnExactLeastSquare", spec := "fnExactLeastSquare", apart := false, narrowed := true }
def FnExactLeastSquareUptoSaid : Prop := fnExactLeastSquareUptoRow.holds Try.pinned (OpenSpec.upto fnExactLeastSquareSpec)

/-- 'laws.FnExactSwapPerformers', WHERE WHAT IT READS IS OF BULK AT MOST 1048576: true; the input reads as it did. -/
def fnExactSwapPerformersUptoRow : OpenClaim := { program := "ythpflpjhohmboaa", sum := "d258f6de686fdd0bf83c2847512bc33f70b546d6e2c5e549e3a321b403798256", func := "loop.example/g00939/laws.FnExactSwapPerformers", spec := "fnExactSwapPerformers", apart := false, narrowed := true }
def FnExactSwapPerformersUptoSaid : Prop := fnExactSwapPerformersUptoRow.holds Try.pinned (OpenSpec.upto fnExactSwapPerformersSpec)

/-- 'laws.FnExactMirrorChart', WHERE WHAT IT READS IS OF BULK AT MOST 1048576: true; the input reads as it did. -/
def fnExactMirrorChartUptoRow : OpenClaim := { program := "ythpflpjhohmboaa", sum := "d258f6de686fdd0bf83c2847512bc33f70b546d6e2c5e549e3a321b403798256", func := "loop.example/g00939/laws.FnExactMirrorChart", spec := "fnExactMirrorChart", apart := false, narrowed := true }
def FnExactMirrorChartUptoSaid : Prop := fnExactMirrorChartUptoRow.holds Try.pinned (OpenSpec.upto fnExactMirrorChartSpec)

/-- 'laws.FnExactWedgeOf', WHERE WHAT IT READS IS OF BULK AT MOST 1048576: true; the input reads as it did. -/
def fnExactWedgeOfUptoRow : OpenClaim := { program := "ythpflpjhohmboaa", sum := "d258f6de686fdd0bf83c2847512bc33f70b546d6e2c5e549e3a321b403798256", func := "loop.example/g00939/laws.FnExactWedgeOf", spec := "fnExactWedgeOf", apart := false, narrowed := true }
def FnExactWedgeOfUptoSaid : Prop := fnExactWedgeOfUptoRow.holds Try.pinned (OpenSpec.upto fnExactWedgeOfSpec)

/-- 'laws.FnExactMiddleSpot', WHERE WHAT IT READS IS OF BULK AT MOST 1048576: true; the input reads as it did. -/
def fnExactMiddleSpotUptoRow : OpenClaim := { program := "ythpflpjhohmboaa", sum := "d258f6de686fdd0bf83c2847512bc33f70b546d6e2c5e549e3a321b403798256", func := "loop.example/g00939/laws.FnExactMiddleSpot", spec := "fnExactMiddleSpot", apart := false, narrowed := true }
def FnExactMiddleSpotUptoSaid : Prop := fnExactMiddleSpotUptoRow.holds Try.pinned (OpenSpec.upto fnExactMiddleSpotSpec)

/-- 'laws.FnExactBlockOf', WHERE WHAT IT READS IS OF BULK AT MOST 1048576: true; the input reads as it did. -/
def fnExactBlockOfUptoRow : OpenClaim := { program := "ythpflpjhohmboaa", sum := "d258f6de686fdd0bf83c2847512bc33f70b546d6e2c5e549e3a321b403798256", func := "loop.example/g00939/laws.FnExactBlockOf", spec := "fnExactBlockOf", apart := false, narrowed := true }
def FnExactBlockOfUptoSaid : Prop := fnExactBlockOfUptoRow.holds Try.pinned (OpenSpec.upto fnExactBlockOfSpec)

/-- 'laws.FnExactJoinForms', WHERE WHAT IT READS IS OF BULK AT MOST 1048576: true; the input reads as it did. -/
def fnExactJoinFormsUptoRow : OpenClaim := { program := "ythpflpjhohmboaa", sum := "d258f6de686fdd0bf83c2847512bc33f70b546d6e2c5e549e3a321b403798256", func := "loop.example/g00939/laws.FnExactJoinForms", spec := "fnExactJoinForms", apart := false, narrowed := true }
def FnExactJoinFormsUptoSaid : Prop := fnExactJoinFormsUptoRow.holds Try.pinned (OpenSpec.upto fnExactJoinFormsSpec)

/-- 'laws.FnExactPlacePerformer', WHERE WHAT IT READS IS OF BULK AT MOST 1048576: true; the input reads as it did. -/
def fnExactPlacePerformerUptoRow : OpenClaim := { program := "ythpflpjhohmboaa", sum := "d258f6de686fdd0bf83c2847512bc33f70b546d6e2c5e549e3a321b403798256", func := "loop.example/g00939/laws.FnExactPlacePerformer", spec := "fnExactPlacePerformer", apart := false, narrowed := true }
def FnExactPlacePerformerUptoSaid : Prop := fnExactPlacePerformerUptoRow.holds Try.pinned (OpenSpec.upto fnExactPlacePerformerSpec)

/-- 'laws.FnExactInnerRoom', WHERE WHAT IT READS IS OF BULK AT MOST 1048576: true; the input reads as it did. -/
def fnExactInnerRoomUptoRow : OpenClaim := { program := "ythpflpjhohmboaa", sum := "d258f6de686fdd0bf83c2847512bc33f70b546d6e2c5e549e3a321b403798256", func := "loop.example/g00939/laws.FnExactInnerRoom", spec := "fnExactInnerRoom", apart := false, narrowed := true }
def FnExactInnerRoomUptoSaid : Prop := fnExactInnerRoomUptoRow.holds Try.pinned (OpenSpec.upto fnExactInnerRoomSpec)

/-- 'laws.FnExactChangedSpots', WHERE WHAT IT READS IS OF BULK AT MOST 1048576: true; the input reads as it did. -/
def fnExactChangedSpotsUptoRow : OpenClaim := { program := "ythpflpjhohmboaa", sum := "d258f6de686fdd0bf83c2847512bc33f70b546d6e2c5e549e3a321b403798256", func := "loop.example/g00939/laws.FnExactChangedSpots", spec := "fnExactChangedSpots", apart := false, narrowed := true }
def FnExactChangedSpotsUptoSaid : Prop := fnExactChangedSpotsUptoRow.holds Try.pinned (OpenSpec.upto fnExactChangedSpotsSpec)

/-- 'laws.FnExactMoveChart', WHERE WHAT IT READS IS OF BULK AT MOST 1048576: true; the input reads as it did. -/
def fnExactMoveChartUptoRow : OpenClaim := { program := "ythpflpjhohmboaa", sum := "d258f6de686fdd0bf83c2847512bc33f70b546d6e2c5e549e3a321b403798256", func := "loop.example/g00939/laws.FnExactMoveChart", spec := "fnExactMoveChart", apart := false, narrowed := true }
def FnExactMoveChartUptoSaid : Prop := fnExactMoveChartUptoRow.holds Try.pinned (OpenSpec.upto fnExactMoveChartSpec)

end Rows
end Go.Proofs.Ythpflpjhohmboaa
