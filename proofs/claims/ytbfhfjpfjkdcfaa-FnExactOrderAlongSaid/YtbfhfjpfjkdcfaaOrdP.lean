/-
  The order of a chart's performers: insertion, in plain words.
-/
import Derived.Test.YtbfhfjpfjkdcfaaRows
import Derived.Test.YtbfhfjpfjkdcfaaBase
import Derived.Test.YtbfhfjpfjkdcfaaPut
namespace Go.Proofs.Ytbfhfjpfjkdcfaa
open Go.RowKit

/-- Spot v comes after spot i. -/
def aft (X Y : Nat → Int) (v i : Nat) : Bool := decide (X i < X v) || (decide (X v = X i) && decide (Y i < Y v))
/-- Where performer i is put among the first k numbers. -/
def posO (X Y : Nat → Int) (O : Nat → Int) (i : Nat) : Nat → Nat
  | 0 => 0
  | k + 1 => if aft X Y (O k).toNat i then posO X Y O i k else k + 1
theorem posO_le (X Y : Nat → Int) (O : Nat → Int) (i : Nat) : ∀ k, posO X Y O i k ≤ k
  | 0 => Nat.le_refl _
  | k + 1 => by
    have := posO_le X Y O i k
    unfold posO
    split <;> omega
/-- The first i performers in order. -/
def ordO (X Y : Nat → Int) : Nat → Nat → Int
  | 0 => fun _ => 0
  | i + 1 => putN (ordO X Y i) (posO X Y (ordO X Y i) i i) (i : Int)
theorem ordO_bd (X Y : Nat → Int) : ∀ i j, j < i → 0 ≤ ordO X Y i j ∧ ordO X Y i j < i
  | 0, j, h => absurd h (by omega)
  | i + 1, j, h => by
    have hp := posO_le X Y (ordO X Y i) i i
    unfold ordO putN
    split
    · have := ordO_bd X Y i j (by omega); omega
    · split
      · omega
      · have := ordO_bd X Y i (j - 1) (by omega); omega
def ordN (n : Nat) (q : Bool) : Nat := if q then n else 0
end Go.Proofs.Ytbfhfjpfjkdcfaa
