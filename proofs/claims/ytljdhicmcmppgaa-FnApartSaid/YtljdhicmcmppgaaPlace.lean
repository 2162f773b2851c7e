/-
  PlacePerformer on both sides.
-/
import Derived.Test.YtljdhicmcmppgaaRows
import Derived.Test.YtljdhicmcmppgaaBase
import Derived.Test.YtljdhicmcmppgaaSpot
import Derived.Test.YtljdhicmcmppgaaSlice
import Derived.Test.YtljdhicmcmppgaaChart
import Derived.Test.YtljdhicmcmppgaaAppend
import Derived.Test.YtljdhicmcmppgaaForm
import Derived.Test.YtljdhicmcmppgaaLawS
import Derived.Test.YtljdhicmcmppgaaMark
import Derived.Test.YtljdhicmcmppgaaOpen
import Derived.Test.YtljdhicmcmppgaaTrod
import Derived.Test.YtljdhicmcmppgaaSwap
namespace Go.Proofs.Ytljdhicmcmppgaa
open Go.RowKit Go.Sort Go.ChangeShapes Go.WideShapes

/-- The list with the number x at the place i. -/
def plX (i : Nat) (x : Int) (X : Nat → Int) (t : Nat) : Int := if t = i then x else X t
def plB (n : Nat) (X Y : Nat → Int) (i x y : Int) : Bool := hasI n X Y i && chartB n (plX i.toNat x X) (plX i.toNat y Y)
theorem pl_no {n : Nat} {X Y : Nat → Int} {i x y : Int} (h : spotB x y = false) : plB n X Y i x y = false := by
  cases hm : plB n X Y i x y with
  | false => rfl
  | true =>
    simp only [plB, Bool.and_eq_true] at hm
    obtain ⟨_, h1, h2⟩ := hasI_iff.1 hm.1
    have := (chartB_iff.1 hm.2).2.1 i.toNat (by omega)
    simp [plX, h] at this
end Go.Proofs.Ytljdhicmcmppgaa
