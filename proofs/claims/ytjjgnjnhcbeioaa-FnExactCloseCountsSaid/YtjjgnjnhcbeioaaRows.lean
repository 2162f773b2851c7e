/-
  No cell of these rows narrows 'for every input' (looked for: loops, veiled, ifaces, maps, wideKeys, modest, calm, conditions, laid).
  DERIVED. THE GIVEN ROWS OF THIS SEAT. 6 by the template 'for every input the law returns true; each argument reads behind the call as it read before'; 0 by the template 'total and deterministic' (their statements: YtjjgnjnhcbeioaaTotals.lean).
  GIVEN WITH THE SEED: the statements are not yours to turn. If you find one false, say at which input.
  Laid BY PROGRAM, IN A SANDBOX (cutbox-rows.mjs): the forced cells as the released guide's own fill.sh prints them over the translation dff832f94937c537… (all of the seat's roots in one cut). By AI agents, Wed Nov 11 2026. No macro, syntax, notation, axiom, sorry.
-/
import Derived.Test.YtjjgnjnhcbeioaaChecked
import GoSem.Claim
import GoSem.ClaimJoined
import GoSem.ClaimMapViews
import Derived.JoinedTies
import Derived.KernelRfl
namespace Go.Proofs.Ytjjgnjnhcbeioaa
/- THE CELL 'sum', in the pinned program and in every row, IS THE sha256 OF THE DUMP (.gsa) THAT YtjjgnjnhcbeioaaProg.lean LOADS. Nothing in Lean hashes anything: it is a label: what it is worth is what the hold of that sum in a sandbox is worth. -/
noncomputable def Try.pinned : Pinned := { name := "ytjjgnjnhcbeioaa", sum := "dff832f94937c5378279ce0a627a0ca14b5d11bfd6b79c60d3064e3a8f64424d", checked := Try.checked }
namespace Rows
def none {H : Type} : Left H := { results := [], args := [] }

/-- 'laws.FnExactIsChart': WHATEVER THE INPUT: true; the input reads as it did. -/
def fnExactIsChartSpec : ChangeSpec := { name := "fnExactIsChart", fn := fun _ => fun
  | [d] => { results := [.lit (.bool true)], args := [d] }
  | _ => none }
def fnExactIsChartRow : OpenClaim := { program := "ytjjgnjnhcbeioaa", sum := "dff832f94937c5378279ce0a627a0ca14b5d11bfd6b79c60d3064e3a8f64424d", func := "loop.example/g00939/laws.FnExactIsChart", spec := "fnExactIsChart", apart := false }
def FnExactIsChartSaid : Prop := fnExactIsChartRow.holds Try.pinned (OpenSpec.ofChange fnExactIsChartSpec)

/-- ITS FALSE NEIGHBOUR: 'it returns false'. Refute it at one input. -/
def fnExactIsChartWrong : ChangeSpec := { name := "fnExactIsChart", fn := fun _ => fun
  | [d] => { results := [.lit (.bool false)], args := [d] }
  | _ => none }
def FnExactIsChartWrongFalsely : Prop := fnExactIsChartRow.holds Try.pinned (OpenSpec.ofChange fnExactIsChartWrong)

/-- 'laws.FnExactAreCosts': WHATEVER THE INPUT: true; the input reads as it did. -/
def fnExactAreCostsSpec : ChangeSpec := { name := "fnExactAreCosts", fn := fun _ => fun
  | [d] => { results := [.lit (.bool true)], args := [d] }
  | _ => none }
def fnExactAreCostsRow : OpenClaim := { program := "ytjjgnjnhcbeioaa", sum := "dff832f94937c5378279ce0a627a0ca14b5d11bfd6b79c60d3064e3a8f64424d", func := "loop.example/g00939/laws.FnExactAreCosts", spec := "fnExactAreCosts", apart := false }
def FnExactAreCostsSaid : Prop := fnExactAreCostsRow.holds Try.pinned (OpenSpec.ofChange fnExactAreCostsSpec)

/-- ITS FALSE NEIGHBOUR: 'it returns false'. Refute it at one input. -/
def fnExactAreCostsWrong : ChangeSpec := { name := "fnExactAreCosts", fn := fun _ => fun
  | [d] => { results := [.lit (.bool false)], args := [d] }
  | _ => none }
def FnExactAreCostsWrongFalsely : Prop := fnExactAreCostsRow.holds Try.pinned (OpenSpec.ofChange fnExactAreCostsWrong)

/-- 'laws.FnExactLeastApart': WHATEVER THE INPUT: true; the input reads as it did. -/
def fnExactLeastApartSpec : ChangeSpec := { name := "fnExactLeastApart", fn := fun _ => fun
  | [d1, d2] => { results := [.lit (.bool true)], args := [d1, d2] }
  | _ => none }
def fnExactLeastApartRow : OpenClaim := { program := "ytjjgnjnhcbeioaa", sum := "dff832f94937c5378279ce0a627a0ca14b5d11bfd6b79c60d3064e3a8f64424d", func := "loop.example/g00939/laws.FnExactLeastApart", spec := "fnExactLeastApart", apart := false }
def FnExactLeastApartSaid : Prop := fnExactLeastApartRow.holds Try.pinned (OpenSpec.ofChange fnExactLeastApartSpec)

/-- ITS FALSE NEIGHBOUR: 'it returns false'. Refute it at one input. -/
def fnExactLeastApartWrong : ChangeSpec := { name := "fnExactLeastApart", fn := fun _ => fun
  | [d1, d2] => { results := [.lit (.bool false)], args := [d1, d2] }
  | _ => none }
def FnExactLeastApartWrongFalsely : Prop := fnExactLeastApartRow.holds Try.pinned (OpenSpec.ofChange fnExactLeastApartWrong)

/-- 'laws.FnExactCloseCounts': WHATEVER THE INPUT: true; the input reads as it did. -/
def fnExactCloseCountsSpec : ChangeSpec := { name := "fnExactCloseCounts", fn := fun _ => fun
  | [d1, d2, d3] => { results := [.lit (.bool true)], args := [d1, d2, d3] }
  | _ => none }
def fnExactCloseCountsRow : OpenClaim := { program := "ytjjgnjnhcbeioaa", sum := "dff832f94937c5378279ce0a627a0ca14b5d11bfd6b79c60d3064e3a8f64424d", func := "loop.example/g00939/laws.FnExactCloseCounts", spec := "fnExactCloseCounts", apart := false }
def FnExactCloseCountsSaid : Prop := fnExactCloseCountsRow.holds Try.pinned (OpenSpec.ofChange fnExactCloseCountsSpec)

/-- ITS FALSE NEIGHBOUR: 'it returns false'. Refute it at one input. -/
def fnExactCloseCountsWrong : ChangeSpec := { name := "fnExactCloseCounts", fn := fun _ => fun
  | [d1, d2, d3] => { results := [.lit (.bool false)], args := [d1, d2, d3] }
  | _ => none }
def FnExactCloseCountsWrongFalsely : Prop := fnExactCloseCountsRow.holds Try.pinned (OpenSpec.ofChange fnExactCloseCountsWrong)

/-- 'laws.FnExactSameForm': WHATEVER THE INPUT: true; the input reads as it did. -/
def fnExactSameFormSpec : ChangeSpec := { name := "fnExactSameForm", fn := fun _ => fun
  | [d1, d2] => { results := [.lit (.bool true)], args := [d1, d2] }
  | _ => none }
def fnExactSameFormRow : OpenClaim := { program := "ytjjgnjnhcbeioaa", sum := "dff832f94937c5378279ce0a627a0ca14b5d11bfd6b79c60d3064e3a8f64424d", func := "loop.example/g00939/laws.FnExactSameForm", spec := "fnExactSameForm", apart := false }
def FnExactSameFormSaid : Prop := fnExactSameFormRow.holds Try.pinned (OpenSpec.ofChange fnExactSameFormSpec)

/-- ITS FALSE NEIGHBOUR: 'it returns false'. Refute it at one input. -/
def fnExactSameFormWrong : ChangeSpec := { name := "fnExactSameForm", fn := fun _ => fun
  | [d1, d2] => { results := [.lit (.bool false)], args := [d1, d2] }
  | _ => none }
def FnExactSameFormWrongFalsely : Prop := fnExactSameFormRow.holds Try.pinned (OpenSpec.ofChange fnExactSameFormWrong)

/-- 'laws.FnExactBoundsOf': WHATEVER THE INPUT: true; the input reads as it did. -/
def fnExactBoundsOfSpec : ChangeSpec := { name := "fnExactBoundsOf", fn := fun _ => fun
  | [d] => { results := [.lit (.bool true)], args := [d] }
  | _ => none }
def fnExactBoundsOfRow : OpenClaim := { program := "ytjjgnjnhcbeioaa", sum := "dff832f94937c5378279ce0a627a0ca14b5d11bfd6b79c60d3064e3a8f64424d", func := "loop.example/g00939/laws.FnExactBoundsOf", spec := "fnExactBoundsOf", apart := false }
def FnExactBoundsOfSaid : Prop := fnExactBoundsOfRow.holds Try.pinned (OpenSpec.ofChange fnExactBoundsOfSpec)

/-- ITS FALSE NEIGHBOUR: 'it returns false'. Refute it at one input. -/
def fnExactBoundsOfWrong : ChangeSpec := { name := "fnExactBoundsOf", fn := fun _ => fun
  | [d] => { results := [.lit (.bool false)], args := [d] }
  | _ => none }
def FnExactBoundsOfWrongFalsely : Prop := fnExactBoundsOfRow.holds Try.pinned (OpenSpec.ofChange fnExactBoundsOfWrong)

/- THE SECOND FORM. 'bulk': how many values and letters a reading holds, each counted each time it is reached (what is shared counts as often as it is met; a slice's spare places count too). A statement '..UptoSaid' is the law's where the arguments, and the package variables that the reading takes, are together of bulk at most 1048576: NARROWER than '..Said'. Prove '..Said' where nothing that the law and all that it calls make is longer than what came in: it says more and counts as full. Else prove '..UptoSaid'. A law counts once. -/
mutual
def uptoBulk {H : Type} : DataW H → Nat
  | .lit (.string bytes) => bytes.length + 1
  | .lit _ => 1
  | .nil => 1
  | .ptr d => uptoBulk d + 1
  | .slice elems spare => uptoBulkAll elems + uptoBulkAll spare + 1
  | .agg parts => uptoBulkAll parts + 1
  | .iface _ d => uptoBulk d + 1
  | .map entries => uptoBulkEntries entries + 1
  | .held _ => 1
def uptoBulkAll {H : Type} : List (DataW H) → Nat
  | [] => 0
  | d :: r => uptoBulk d + uptoBulkAll r
def uptoBulkEntries {H : Type} : List (Lit × DataW H) → Nat
  | [] => 0
  | x :: r => uptoBulkEntry x + uptoBulkEntries r
def uptoBulkEntry {H : Type} : Lit × DataW H → Nat
  | (.string bytes, d) => bytes.length + uptoBulk d + 1
  | (_, d) => uptoBulk d + 1
 end
def uptoSmall : (H : Type) → List (DataW H) → Bool := fun _ ds => decide (uptoBulkAll ds ≤ 1048576)
def OpenSpec.upto (s : _root_.Go.ChangeSpec) : _root_.Go.OpenSpec := { _root_.Go.OpenSpec.ofChange s with cond := some uptoSmall }

/-- 'laws.FnExactIsChart', WHERE WHAT IT READS IS OF BULK AT MOST 1048576: true; the input reads as it did. -/
def fnExactIsChartUptoRow : OpenClaim := { program := "ytjjgnjnhcbeioaa", sum := "dff832f94937c5378279ce0a627a0ca14b5d11bfd6b79c60d3064e3a8f64424d", func := "loop.example/g00939/laws.FnExactIsChart", spec := "fnExactIsChart", apart := false, narrowed := true }
def FnExactIsChartUptoSaid : Prop := fnExactIsChartUptoRow.holds Try.pinned (OpenSpec.upto fnExactIsChartSpec)

/-- 'laws.FnExactAreCosts', WHERE WHAT IT READS IS OF BULK AT MOST 1048576: true; the input reads as it did. -/
def fnExactAreCostsUptoRow : OpenClaim := { program := "ytjjgnjnhcbeioaa", sum := "dff832f94937c5378279ce0a627a0ca14b5d11bfd6b79c60d3064e3a8f64424d", func := "loop.example/g00939/laws.FnExactAreCosts", spec := "fnExactAreCosts", apart := false, narrowed := true }
def FnExactAreCostsUptoSaid : Prop := fnExactAreCostsUptoRow.holds Try.pinned (OpenSpec.upto fnExactAreCostsSpec)

/-- 'laws.FnExactLeastApart', WHERE WHAT IT READS IS OF BULK AT MOST 1048576: true; the input reads as it did. -/
def fnExactLeastApartUptoRow : OpenClaim := { program := "ytjjgnjnhcbeioaa", sum := "dff832f94937c5378279ce0a627a0ca14b5d11bfd6b79c60d3064e3a8f64424d", func := "loop.example/g00939/laws.FnExactLeastApart", spec := "fnExactLeastApart", apart := false, narrowed := true }
def FnExactLeastApartUptoSaid : Prop := fnExactLeastApartUptoRow.holds Try.pinned (OpenSpec.upto fnExactLeastApartSpec)

/-- 'laws.FnExactCloseCounts', WHERE WHAT IT READS IS OF BULK AT MOST 1048576: true; the input reads as it did. -/
def fnExactCloseCountsUptoRow : OpenClaim := { program := "ytjjgnjnhcbeioaa", sum := "dff832f94937c5378279ce0a627a0ca14b5d11bfd6b79c60d3064e3a8f64424d", func := "loop.example/g00939/laws.FnExactCloseCounts", spec := "fnExactCloseCounts", apart := false, narrowed := true }
def FnExactCloseCountsUptoSaid : Prop := fnExactCloseCountsUptoRow.holds Try.pinned (OpenSpec.upto fnExactCloseCountsSpec)

/-- 'laws.FnExactSameForm', WHERE WHAT IT READS IS OF BULK AT MOST 1048576: true; the input reads as it did. -/
def fnExactSameFormUptoRow : OpenClaim := { program := "ytjjgnjnhcbeioaa", sum := "dff832f94937c5378279ce0a627a0ca14b5d11bfd6b79c60d3064e3a8f64424d", func := "loop.example/g00939/laws.FnExactSameForm", spec := "fnExactSameForm", apart := false, narrowed := true }
def FnExactSameFormUptoSaid : Prop := fnExactSameFormUptoRow.holds Try.pinned (OpenSpec.upto fnExactSameFormSpec)

/-- 'laws.FnExactBoundsOf', WHERE WHAT IT READS IS OF BULK AT MOST 1048576: true; the input reads as it did. -/
def fnExactBoundsOfUptoRow : OpenClaim := { program := "ytjjgnjnhcbeioaa", sum := "dff832f94937c5378279ce0a627a0ca14b5d11bfd6b79c60d3064e3a8f64424d", func := "loop.example/g00939/laws.FnExactBoundsOf", spec := "fnExactBoundsOf", apart := false, narrowed := true }
def FnExactBoundsOfUptoSaid : Prop := fnExactBoundsOfUptoRow.holds Try.pinned (OpenSpec.upto fnExactBoundsOfSpec)

end Rows
end Go.Proofs.Ytjjgnjnhcbeioaa
