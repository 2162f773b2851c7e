/-
  FnExactSameForm: for all arguments the law returns true, and its arguments read afterwards as before. No condition.
-/
import Derived.Test.YtljdhicmcmppgaaRows
import Derived.Test.YtljdhicmcmppgaaBase
import Derived.Test.YtljdhicmcmppgaaSpot
import Derived.Test.YtljdhicmcmppgaaSlice
import Derived.Test.YtljdhicmcmppgaaOpen
import Derived.Test.YtljdhicmcmppgaaLawS
import Derived.Test.YtljdhicmcmppgaaChart
namespace Go.Proofs.Ytljdhicmcmppgaa
open Go.RowKit Go.ChangeShapes Go.WideShapes Go.Sort

theorem same_comm (x y u v : Int) : same x y u v = same u v x y := by unfold same; rw [Bool.eq_iff_iff]; simp; omega
/-- Every spot of the first list is one of the second. -/
def subB (n : Nat) (X Y : Nat → Int) (m : Nat) (X' Y' : Nat → Int) : Bool := allB (fun i => hasB (fun j => same (X i) (Y i) (X' j) (Y' j)) m) n
/-- What both sides' SameForm hands back. -/
def sfR (n : Nat) (X Y : Nat → Int) (m : Nat) (X' Y' : Nat → Int) : Bool := chartB n X Y && chartB m X' Y' && ((n == m) && subB n X Y m X' Y')
def sfG (n : Nat) (X Y : Nat → Int) (m : Nat) (X' Y' : Nat → Int) : Bool := chartB n X Y && chartB m X' Y'
theorem Ans.bool2 {w : World} {a b a' b' : Bool} {w' : World} (h : a = a') (h' : b = b') (hb : Below w.heap.size w w') : Ans w (.tuple #[.bool a', .bool b']) (.returned (.tuple #[.bool a, .bool b])) w' := ⟨by rw [h, h'], hb⟩
end Go.Proofs.Ytljdhicmcmppgaa
