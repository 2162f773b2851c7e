/-
  No cell of these rows narrows 'for every input' (looked for: loops, veiled, ifaces, maps, wideKeys, modest, calm, conditions, laid).
  DERIVED. THE GIVEN ROWS OF THIS SEAT. 12 by the template 'for every input the law returns true; each argument reads behind the call as it read before'; 0 by the template 'total and deterministic' (their statements: YtamoanhjajnahaaTotals.lean).
  GIVEN WITH THE SEED: the statements are not yours to turn. If you find one false, say at which input.
  Laid BY PROGRAM, IN A SANDBOX (cutbox-rows.mjs): the forced cells as the released guide's own fill.sh prints them over the translation cfae1b6ed99d061d… (all of the seat's roots in one cut). By AI agents, Wed Nov 11 2026. No macro, syntax, notation, axiom, sorry.
-/
import Derived.Test.YtamoanhjajnahaaChecked
import GoSem.Claim
import GoSem.ClaimJoined
import GoSem.ClaimMapViews
import Derived.JoinedTies
import Derived.KernelRfl
namespace Go.Proofs.Ytamoanhjajnahaa
/- THE CELL 'sum', in the pinned program and in every row, IS THE sha256 OF THE DUMP (.gsa) THAT YtamoanhjajnahaaProg.lean LOADS. Nothing in Lean hashes anything: it is a label: what it is worth is what the hold of that sum in a sandbox is worth. -/
noncomputable def Try.pinned : Pinned := { name := "ytamoanhjajnahaa", sum := "cfae1b6ed99d061d7268e0875bcff875d2fd5471c38501c9dcb71ef6f2d31eb8", checked := Try.checked }
namespace Rows
def none {H : Type} : Left H := { results := [], args := [] }

/-- 'laws.FnExactAreCosts': WHATEVER THE INPUT: true; the input reads as it did. -/
def fnExactAreCostsSpec : ChangeSpec := { name := "fnExactAreCosts", fn := fun _ => fun
  | [d] => { results := [.lit (.bool true)], args := [d] }
  | _ => none }
def fnExactAreCostsRow : OpenClaim := { program := "ytamoanhjajnahaa", sum := "cfae1b6ed99d061d7268e0875bcff875d2fd5471c38501c9dcb71ef6f2d31eb8", func := "loop.example/g00939/laws.FnExactAreCosts", spec := "fnExactAreCosts", apart := false }
def FnExactAreCostsSaid : Prop := fnExactAreCostsRow.holds Try.pinned (OpenSpec.ofChange fnExactAreCostsSpec)

/-- ITS FALSE NEIGHBOUR: 'it returns false'. Refute it at one input. -/
def fnExactAreCostsWrong : ChangeSpec := { name := "fnExactAreCosts", fn := fun _ => fun
  | [d] => { results := [.lit (.bool false)], args := [d] }
  | _ => none }
def FnExactAreCostsWrongFalsely : Prop := fnExactAreCostsRow.holds Try.pinned (OpenSpec.ofChange fnExactAreCostsWrong)

/-- 'laws.FnExactIsCertificate': WHATEVER THE INPUT: true; the input reads as it did. -/
def fnExactIsCertificateSpec : ChangeSpec := { name := "fnExactIsCertificate", fn := fun _ => fun
  | [d1, d2, d3] => { results := [.lit (.bool true)], args := [d1, d2, d3] }
  | _ => none }
def fnExactIsCertificateRow : OpenClaim := { program := "ytamoanhjajnahaa", sum := "cfae1b6ed99d061d7268e0875bcff875d2fd5471c38501c9dcb71ef6f2d31eb8", func := "loop.example/g00939/laws.FnExactIsCertificate", spec := "fnExactIsCertificate", apart := false }
def FnExactIsCertificateSaid : Prop := fnExactIsCertificateRow.holds Try.pinned (OpenSpec.ofChange fnExactIsCertificateSpec)

/-- ITS FALSE NEIGHBOUR: 'it returns false'. Refute it at one input. -/
def fnExactIsCertificateWrong : ChangeSpec := { name := "fnExactIsCertificate", fn := fun _ => fun
  | [d1, d2, d3] => { results := [.lit (.bool false)], args := [d1, d2, d3] }
  | _ => none }
def FnExactIsCertificateWrongFalsely : Prop := fnExactIsCertificateRow.holds Try.pinned (OpenSpec.ofChange fnExactIsCertificateWrong)

/-- 'laws.FnExactMatchingSum': WHATEVER THE INPUT: true; the input reads as it did. -/
def fnExactMatchingSumSpec : ChangeSpec := { name := "fnExactMatchingSum", fn := fun _ => fun
  | [d1, d2] => { results := [.lit (.bool true)], args := [d1, d2] }
  | _ => none }
def fnExactMatchingSumRow : OpenClaim := { program := "ytamoanhjajnahaa", sum := "cfae1b6ed99d061d7268e0875bcff875d2fd5471c38501c9dcb71ef6f2d31eb8", func := "loop.example/g00939/laws.FnExactMatchingSum", spec := "fnExactMatchingSum", apart := false }
def FnExactMatchingSumSaid : Prop := fnExactMatchingSumRow.holds Try.pinned (OpenSpec.ofChange fnExactMatchingSumSpec)

/-- ITS FALSE NEIGHBOUR: 'it returns false'. Refute it at one input. -/
def fnExactMatchingSumWrong : ChangeSpec := { name := "fnExactMatchingSum", fn := fun _ => fun
  | [d1, d2] => { results := [.lit (.bool false)], args := [d1, d2] }
  | _ => none }
def FnExactMatchingSumWrongFalsely : Prop := fnExactMatchingSumRow.holds Try.pinned (OpenSpec.ofChange fnExactMatchingSumWrong)

/-- 'laws.FnExactGreedyMatching': WHATEVER THE INPUT: true; the input reads as it did. -/
def fnExactGreedyMatchingSpec : ChangeSpec := { name := "fnExactGreedyMatching", fn := fun _ => fun
  | [d] => { results := [.lit (.bool true)], args := [d] }
  | _ => none }
def fnExactGreedyMatchingRow : OpenClaim := { program := "ytamoanhjajnahaa", sum := "cfae1b6ed99d061d7268e0875bcff875d2fd5471c38501c9dcb71ef6f2d31eb8", func := "loop.example/g00939/laws.FnExactGreedyMatching", spec := "fnExactGreedyMatching", apart := false }
def FnExactGreedyMatchingSaid : Prop := fnExactGreedyMatchingRow.holds Try.pinned (OpenSpec.ofChange fnExactGreedyMatchingSpec)

/-- ITS FALSE NEIGHBOUR: 'it returns false'. Refute it at one input. -/
def fnExactGreedyMatchingWrong : ChangeSpec := { name := "fnExactGreedyMatching", fn := fun _ => fun
  | [d] => { results := [.lit (.bool false)], args := [d] }
  | _ => none }
def FnExactGreedyMatchingWrongFalsely : Prop := fnExactGreedyMatchingRow.holds Try.pinned (OpenSpec.ofChange fnExactGreedyMatchingWrong)

/-- 'laws.FnExactCountLeast': WHATEVER THE INPUT: true; the input reads as it did. -/
def fnExactCountLeastSpec : ChangeSpec := { name := "fnExactCountLeast", fn := fun _ => fun
  | [d] => { results := [.lit (.bool true)], args := [d] }
  | _ => none }
def fnExactCountLeastRow : OpenClaim := { program := "ytamoanhjajnahaa", sum := "cfae1b6ed99d061d7268e0875bcff875d2fd5471c38501c9dcb71ef6f2d31eb8", func := "loop.example/g00939/laws.FnExactCountLeast", spec := "fnExactCountLeast", apart := false }
def FnExactCountLeastSaid : Prop := fnExactCountLeastRow.holds Try.pinned (OpenSpec.ofChange fnExactCountLeastSpec)

/-- ITS FALSE NEIGHBOUR: 'it returns false'. Refute it at one input. -/
def fnExactCountLeastWrong : ChangeSpec := { name := "fnExactCountLeast", fn := fun _ => fun
  | [d] => { results := [.lit (.bool false)], args := [d] }
  | _ => none }
def FnExactCountLeastWrongFalsely : Prop := fnExactCountLeastRow.holds Try.pinned (OpenSpec.ofChange fnExactCountLeastWrong)

/-- 'laws.FnExactForbiddenPair': WHATEVER THE INPUT: true; the input reads as it did. -/
def fnExactForbiddenPairSpec : ChangeSpec := { name := "fnExactForbiddenPair", fn := fun _ => fun
  | [d1, d2, d3] => { results := [.lit (.bool true)], args := [d1, d2, d3] }
  | _ => none }
def fnExactForbiddenPairRow : OpenClaim := { program := "ytamoanhjajnahaa", sum := "cfae1b6ed99d061d7268e0875bcff875d2fd5471c38501c9dcb71ef6f2d31eb8", func := "loop.example/g00939/laws.FnExactForbiddenPair", spec := "fnExactForbiddenPair", apart := false }
def FnExactForbiddenPairSaid : Prop := fnExactForbiddenPairRow.holds Try.pinned (OpenSpec.ofChange fnExactForbiddenPairSpec)

/-- ITS FALSE NEIGHBOUR: 'it returns false'. Refute it at one input. -/
def fnExactForbiddenPairWrong : ChangeSpec := { name := "fnExactForbiddenPair", fn := fun _ => fun
  | [d1, d2, d3] => { results := [.lit (.bool false)], args := [d1, d2, d3] }
  | _ => none }
def FnExactForbiddenPairWrongFalsely : Prop := fnExactForbiddenPairRow.holds Try.pinned (OpenSpec.ofChange fnExactForbiddenPairWrong)

/-- 'laws.FnExactForcedPair': WHATEVER THE INPUT: true; the input reads as it did. -/
def fnExactForcedPairSpec : ChangeSpec := { name := "fnExactForcedPair", fn := fun _ => fun
  | [d1, d2, d3] => { results := [.lit (.bool true)], args := [d1, d2, d3] }
  | _ => none }
def fnExactForcedPairRow : OpenClaim := { program := "ytamoanhjajnahaa", sum := "cfae1b6ed99d061d7268e0875bcff875d2fd5471c38501c9dcb71ef6f2d31eb8", func := "loop.example/g00939/laws.FnExactForcedPair", spec := "fnExactForcedPair", apart := false }
def FnExactForcedPairSaid : Prop := fnExactForcedPairRow.holds Try.pinned (OpenSpec.ofChange fnExactForcedPairSpec)

/-- ITS FALSE NEIGHBOUR: 'it returns false'. Refute it at one input. -/
def fnExactForcedPairWrong : ChangeSpec := { name := "fnExactForcedPair", fn := fun _ => fun
  | [d1, d2, d3] => { results := [.lit (.bool false)], args := [d1, d2, d3] }
  | _ => none }
def FnExactForcedPairWrongFalsely : Prop := fnExactForcedPairRow.holds Try.pinned (OpenSpec.ofChange fnExactForcedPairWrong)

/-- 'laws.FnExactLeastMatching': WHATEVER THE INPUT: true; the input reads as it did. -/
def fnExactLeastMatchingSpec : ChangeSpec := { name := "fnExactLeastMatching", fn := fun _ => fun
  | [d] => { results := [.lit (.bool true)], args := [d] }
  | _ => none }
def fnExactLeastMatchingRow : OpenClaim := { program := "ytamoanhjajnahaa", sum := "cfae1b6ed99d061d7268e0875bcff875d2fd5471c38501c9dcb71ef6f2d31eb8", func := "loop.example/g00939/laws.FnExactLeastMatching", spec := "fnExactLeastMatching", apart := false }
def FnExactLeastMatchingSaid : Prop := fnExactLeastMatchingRow.holds Try.pinned (OpenSpec.ofChange fnExactLeastMatchingSpec)

/-- ITS FALSE NEIGHBOUR: 'it returns false'. Refute it at one input. -/
def fnExactLeastMatchingWrong : ChangeSpec := { name := "fnExactLeastMatching", fn := fun _ => fun
  | [d] => { results := [.lit (.bool false)], args := [d] }
  | _ => none }
def FnExactLeastMatchingWrongFalsely : Prop := fnExactLeastMatchingRow.holds Try.pinned (OpenSpec.ofChange fnExactLeastMatchingWrong)

/-- 'laws.FnExactLeastCertificate': WHATEVER THE INPUT: true; the input reads as it did. -/
def fnExactLeastCertificateSpec : ChangeSpec := { name := "fnExactLeastCertificate", fn := fun _ => fun
  | [d] => { results := [.lit (.bool true)], args := [d] }
  | _ => none }
def fnExactLeastCertificateRow : OpenClaim := { program := "ytamoanhjajnahaa", sum := "cfae1b6ed99d061d7268e0875bcff875d2fd5471c38501c9dcb71ef6f2d31eb8", func := "loop.example/g00939/laws.FnExactLeastCertificate", spec := "fnExactLeastCertificate", apart := false }
def FnExactLeastCertificateSaid : Prop := fnExactLeastCertificateRow.holds Try.pinned (OpenSpec.ofChange fnExactLeastCertificateSpec)

/-- ITS FALSE NEIGHBOUR: 'it returns false'. Refute it at one input. -/
def fnExactLeastCertificateWrong : ChangeSpec := { name := "fnExactLeastCertificate", fn := fun _ => fun
  | [d] => { results := [.lit (.bool false)], args := [d] }
  | _ => none }
def FnExactLeastCertificateWrongFalsely : Prop := fnExactLeastCertificateRow.holds Try.pinned (OpenSpec.ofChange fnExactLeastCertificateWrong)

/-- 'laws.FnExactLeastGreatest': WHATEVER THE INPUT: true; the input reads as it did. -/
def fnExactLeastGreatestSpec : ChangeSpec := { name := "fnExactLeastGreatest", fn := fun _ => fun
  | [d] => { results := [.lit (.bool true)], args := [d] }
  | _ => none }
def fnExactLeastGreatestRow : OpenClaim := { program := "ytamoanhjajnahaa", sum := "cfae1b6ed99d061d7268e0875bcff875d2fd5471c38501c9dcb71ef6f2d31eb8", func := "loop.example/g00939/laws.FnExactLeastGreatest", spec := "fnExactLeastGreatest", apart := false }
def FnExactLeastGreatestSaid : Prop := fnExactLeastGreatestRow.holds Try.pinned (OpenSpec.ofChange fnExactLeastGreatestSpec)

/-- ITS FALSE NEIGHBOUR: 'it returns false'. Refute it at one input. -/
def fnExactLeastGreatestWrong : ChangeSpec := { name := "fnExactLeastGreatest", fn := fun _ => fun
  | [d] => { results := [.lit (.bool false)], args := [d] }
  | _ => none }
def FnExactLeastGreatestWrongFalsely : Prop := fnExactLeastGreatestRow.holds Try.pinned (OpenSpec.ofChange fnExactLeastGreatestWrong)

/-- 'laws.FnExactLeastTransition': WHATEVER THE INPUT: true; the input reads as it did. -/
def fnExactLeastTransitionSpec : ChangeSpec := { name := "fnExactLeastTransition", fn := fun _ => fun
  | [d1, d2, d3] => { results := [.lit (.bool true)], args := [d1, d2, d3] }
  | _ => none }
def fnExactLeastTransitionRow : OpenClaim := { program := "ytamoanhjajnahaa", sum := "cfae1b6ed99d061d7268e0875bcff875d2fd5471c38501c9dcb71ef6f2d31eb8", func := "loop.example/g00939/laws.FnExactLeastTransition", spec := "fnExactLeastTransition", apart := false }
def FnExactLeastTransitionSaid : Prop := fnExactLeastTransitionRow.holds Try.pinned (OpenSpec.ofChange fnExactLeastTransitionSpec)

/-- ITS FALSE NEIGHBOUR: 'it returns false'. Refute it at one input. -/
def fnExactLeastTransitionWrong : ChangeSpec := { name := "fnExactLeastTransition", fn := fun _ => fun
  | [d1, d2, d3] => { results := [.lit (.bool false)], args := [d1, d2, d3] }
  | _ => none }
def FnExactLeastTransitionWrongFalsely : Prop := fnExactLeastTransitionRow.holds Try.pinned (OpenSpec.ofChange fnExactLeastTransitionWrong)

/-- 'laws.FnMatchings': WHATEVER THE INPUT: true; the input reads as it did. -/
def fnMatchingsSpec : ChangeSpec := { name := "fnMatchings", fn := fun _ => fun
  | [d1, d2] => { results := [.lit (.bool true)], args := [d1, d2] }
  | _ => none }
def fnMatchingsRow : OpenClaim := { program := "ytamoanhjajnahaa", sum := "cfae1b6ed99d061d7268e0875bcff875d2fd5471c38501c9dcb71ef6f2d31eb8", func := "loop.example/g00939/laws.FnMatchings", spec := "fnMatchings", apart := false }
def FnMatchingsSaid : Prop := fnMatchingsRow.holds Try.pinned (OpenSpec.ofChange fnMatchingsSpec)

/-- ITS FALSE NEIGHBOUR: 'it returns false'. Refute it at one input. -/
def fnMatchingsWrong : ChangeSpec := { name := "fnMatchings", fn := fun _ => fun
  | [d1, d2] => { results := [.lit (.bool false)], args := [d1, d2] }
  | _ => none }
def FnMatchingsWrongFalsely : Prop := fnMatchingsRow.holds Try.pinned (OpenSpec.ofChange fnMatchingsWrong)

/- THE SECOND FORM. 'bulk': how many values and letters a reading holds, each counted each time it is reached (what is shared counts as often as it is met; a slice's spare places count too). A statement '..UptoSaid' is the law's where the arguments, and the package variables that the reading takes, are together of bulk at most 1048576: NARROWER than '..Said'. Prove '..Said' where nothing that the law and all that it calls make is longer than what came in: it says more and counts as full. Else prove '..UptoSaid'. A law counts once. -/
mutual
def uptoBulk {H : Type} : DataW H → Nat
  | .lit (.string bytes) => bytes.length + 1
  | .lit _ => 1
  | .nil => 1
  | .ptr d => uptoBulk d + 1
  | .slice elems spare => uptoBulkAll elems + uptoBulkAll spare + 1
  | .agg parts => uptoBulkAll parts + 1
  | .iface _ d => uptoBulk d + 1
  | .map entries => uptoBulkEntries entries + 1
  | .held _ => 1
def uptoBulkAll {H : Type} : List (DataW H) → Nat
  | [] => 0
  | d :: r => uptoBulk d + uptoBulkAll r
def uptoBulkEntries {H : Type} : List (Lit × DataW H) → Nat
  | [] => 0
  | x :: r => uptoBulkEntry x + uptoBulkEntries r
def uptoBulkEntry {H : Type} : Lit × DataW H → Nat
  | (.string bytes, d) => bytes.length + uptoBulk d + 1
  | (_, d) => uptoBulk d + 1
 end
def uptoSmall : (H : Type) → List (DataW H) → Bool := fun _ ds => decide (uptoBulkAll ds ≤ 1048576)
def OpenSpec.upto (s : _root_.Go.ChangeSpec) : _root_.Go.OpenSpec := { _root_.Go.OpenSpec.ofChange s with cond := some uptoSmall }

/-- 'laws.FnExactAreCosts', WHERE WHAT IT READS IS OF BULK AT MOST 1048576: true; the input reads as it did. -/
def fnExactAreCostsUptoRow : OpenClaim := { program := "ytamoanhjajnahaa", sum := "cfae1b6ed99d061d7268e0875bcff875d2fd5471c38501c9dcb71ef6f2d31eb8", func := "loop.example/g00939/laws.FnExactAreCosts", spec := "fnExactAreCosts", apart := false, narrowed := true }
def FnExactAreCostsUptoSaid : Prop := fnExactAreCostsUptoRow.holds Try.pinned (OpenSpec.upto fnExactAreCostsSpec)

/-- 'laws.FnExactIsCertificate', WHERE WHAT IT READS IS OF BULK AT MOST 1048576: true; the input reads as it did. -/
def fnExactIsCertificateUptoRow : OpenClaim := { program := "ytamoanhjajnahaa", sum := "cfae1b6ed99d061d7268e0875bcff875d2fd5471c38501c9dcb71ef6f2d31eb8", func := "loop.example/g00939/laws.FnExactIsCertificate", spec := "fnExactIsCertificate", apart := false, narrowed := true }
def FnExactIsCertificateUptoSaid : Prop := fnExactIsCertificateUptoRow.holds Try.pinned (OpenSpec.upto fnExactIsCertificateSpec)

/-- 'laws.FnExactMatchingSum', WHERE WHAT IT READS IS OF BULK AT MOST 1048576: true; the input reads as it did. -/
def fnExactMatchingSumUptoRow : OpenClaim := { program := "ytamoanhjajnahaa", sum := "cfae1b6ed99d061d7268e0875bcff875d2fd5471c38501c9dcb71ef6f2d31eb8", func := "loop.example/g00939/laws.FnExactMatchingSum", spec := "fnExactMatchingSum", apart := false, narrowed := true }
def FnExactMatchingSumUptoSaid : Prop := fnExactMatchingSumUptoRow.holds Try.pinned (OpenSpec.upto fnExactMatchingSumSpec)

/-- 'laws.FnExactGreedyMatching', WHERE WHAT IT READS IS OF BULK AT MOST 1048576: true; the input reads as it did. -/
def fnExactGreedyMatchingUptoRow : OpenClaim := { program := "ytamoanhjajnahaa", sum := "cfae1b6ed99d061d7268e0875bcff875d2fd5471c38501c9dcb71ef6f2d31eb8", func := "loop.example/g00939/laws.FnExactGreedyMatching", spec := "fnExactGreedyMatching", apart := false, narrowed := true }
def FnExactGreedyMatchingUptoSaid : Prop := fnExactGreedyMatchingUptoRow.holds Try.pinned (OpenSpec.upto fnExactGreedyMatchingSpec)

/-- 'laws.FnExactCountLeast', WHERE WHAT IT READS IS OF BULK AT MOST 1048576: true; the input reads as it did. -/
def fnExactCountLeastUptoRow : OpenClaim := { program := "ytamoanhjajnahaa", sum := "cfae1b6ed99d061d7268e0875bcff875d2fd5471c38501c9dcb71ef6f2d31eb8", func := "loop.example/g00939/laws.FnExactCountLeast", spec := "fnExactCountLeast", apart := false, narrowed := true }
def FnExactCountLeastUptoSaid : Prop := fnExactCountLeastUptoRow.holds Try.pinned (OpenSpec.upto fnExactCountLeastSpec)

/-- 'laws.FnExactForbiddenPair', WHERE WHAT IT READS IS OF BULK AT MOST 1048576: true; the input reads as it did. -/
def fnExactForbiddenPairUptoRow : OpenClaim := { program := "ytamoanhjajnahaa", sum := "cfae1b6ed99d061d7268e0875bcff875d2fd5471c38501c9dcb71ef6f2d31eb8", func := "loop.example/g00939/laws.FnExactForbiddenPair", spec := "fnExactForbiddenPair", apart := false, narrowed := true }
def FnExactForbiddenPairUptoSaid : Prop := fnExactForbiddenPairUptoRow.holds Try.pinned (OpenSpec.upto fnExactForbiddenPairSpec)

/-- 'laws.FnExactForcedPair', WHERE WHAT IT READS IS OF BULK AT MOST 1048576: true; the input reads as it did. -/
def fnExactForcedPairUptoRow : OpenClaim := { program := "ytamoanhjajnahaa", sum := "cfae1b6ed99d061d7268e0875bcff875d2fd5471c38501c9dcb71ef6f2d31eb8", func := "loop.example/g00939/laws.FnExactForcedPair", spec := "fnExactForcedPair", apart := false, narrowed := true }
def FnExactForcedPairUptoSaid : Prop := fnExactForcedPairUptoRow.holds Try.pinned (OpenSpec.upto fnExactForcedPairSpec)

/-- 'laws.FnExactLeastMatching', WHERE WHAT IT READS IS OF BULK AT MOST 1048576: true; the input reads as it did. -/
def fnExactLeastMatchingUptoRow : OpenClaim := { program := "ytamoanhjajnahaa", sum := "cfae1b6ed99d061d7268e0875bcff875d2fd5471c38501c9dcb71ef6f2d31eb8", func := "loop.example/g00939/laws.FnExactLeastMatching", spec := "fnExactLeastMatching", apart := false, narrowed := true }
def FnExactLeastMatchingUptoSaid : Prop := fnExactLeastMatchingUptoRow.holds Try.pinned (OpenSpec.upto fnExactLeastMatchingSpec)

/-- 'laws.FnExactLeastCertificate', WHERE WHAT IT READS IS OF BULK AT MOST 1048576: true; the input reads as it did. -/
def fnExactLeastCertificateUptoRow : OpenClaim := { program := "ytamoanhjajnahaa", sum := "cfae1b6ed99d061d7268e0875bcff875d2fd5471c38501c9dcb71ef6f2d31eb8", func := "loop.example/g00939/laws.FnExactLeastCertificate", spec := "fnExactLeastCertificate", apart := false, narrowed := true }
def FnExactLeastCertificateUptoSaid : Prop := fnExactLeastCertificateUptoRow.holds Try.pinned (OpenSpec.upto fnExactLeastCertificateSpec)

/-- 'laws.FnExactLeastGreatest', WHERE WHAT IT READS IS OF BULK AT MOST 1048576: true; the input reads as it did. -/
def fnExactLeastGreatestUptoRow : OpenClaim := { program := "ytamoanhjajnahaa", sum := "cfae1b6ed99d061d7268e0875bcff875d2fd5471c38501c9dcb71ef6f2d31eb8", func := "loop.example/g00939/laws.FnExactLeastGreatest", spec := "fnExactLeastGreatest", apart := false, narrowed := true }
def FnExactLeastGreatestUptoSaid : Prop := fnExactLeastGreatestUptoRow.holds Try.pinned (OpenSpec.upto fnExactLeastGreatestSpec)

/-- 'laws.FnExactLeastTransition', WHERE WHAT IT READS IS OF BULK AT MOST 1048576: true; the input reads as it did. -/
def fnExactLeastTransitionUptoRow : OpenClaim := { program := "ytamoanhjajnahaa", sum := "cfae1b6ed99d061d7268e0875bcff875d2fd5471c38501c9dcb71ef6f2d31eb8", func := "loop.example/g00939/laws.FnExactLeastTransition", spec := "fnExactLeastTransition", apart := false, narrowed := true }
def FnExactLeastTransitionUptoSaid : Prop := fnExactLeastTransitionUptoRow.holds Try.pinned (OpenSpec.upto fnExactLeastTransitionSpec)

/-- 'laws.FnMatchings', WHERE WHAT IT READS IS OF BULK AT MOST 1048576: true; the input reads as it did. -/
def fnMatchingsUptoRow : OpenClaim := { program := "ytamoanhjajnahaa", sum := "cfae1b6ed99d061d7268e0875bcff875d2fd5471c38501c9dcb71ef6f2d31eb8", func := "loop.example/g00939/laws.FnMatchings", spec := "fnMatchings", apart := false, narrowed := true }
def FnMatchingsUptoSaid : Prop := fnMatchingsUptoRow.holds Try.pinned (OpenSpec.upto fnMatchingsSpec)

end Rows
end Go.Proofs.Ytamoanhjajnahaa
