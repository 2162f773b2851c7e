/-
  SwapPerformers and PlacePerformer on both sides.
-/
import Derived.Test.YtljdhicmcmppgaaRows
import Derived.Test.YtljdhicmcmppgaaBase
import Derived.Test.YtljdhicmcmppgaaSpot
import Derived.Test.YtljdhicmcmppgaaSlice
import Derived.Test.YtljdhicmcmppgaaChart
import Derived.Test.YtljdhicmcmppgaaAppend
import Derived.Test.YtljdhicmcmppgaaForm
import Derived.Test.YtljdhicmcmppgaaLawS
import Derived.Test.YtljdhicmcmppgaaMark
import Derived.Test.YtljdhicmcmppgaaOpen
import Derived.Test.YtljdhicmcmppgaaTrod
import Derived.RegionTactic
import Derived.ChangeAlike
namespace Go.Proofs.Ytljdhicmcmppgaa
open Go.RowKit Go.Sort Go.ChangeShapes Go.WideShapes

theorem cell_drew (w : World) (p : Addr) : w.drew.cell? p = w.cell? p := rfl
theorem frozen_drew (w : World) (p : Addr) : w.drew.frozen? p = w.frozen? p := rfl
/-- A chart, and a place in it. -/
def hasI (n : Nat) (X Y : Nat → Int) (i : Int) : Bool := chartB n X Y && inB i 0 ((n : Int) - 1)
theorem hasI_iff {n : Nat} {X Y : Nat → Int} {i : Int} : hasI n X Y i = true ↔ chartB n X Y = true ∧ 0 ≤ i ∧ i ≤ (n : Int) - 1 := by simp [hasI, inB_iff]
/-- The list with two places changed about. -/
def swX (i j : Nat) (X : Nat → Int) (t : Nat) : Int := if t = j then X i else if t = i then X j else X t
def swB (n : Nat) (X Y : Nat → Int) (i j : Int) : Bool := hasI n X Y i && hasI n X Y j
end Go.Proofs.Ytljdhicmcmppgaa
