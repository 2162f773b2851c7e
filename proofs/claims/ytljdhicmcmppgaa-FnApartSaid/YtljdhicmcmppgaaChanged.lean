/-
  ChangedSpots on both sides.
-/
import Derived.Test.YtljdhicmcmppgaaRows
import Derived.Test.YtljdhicmcmppgaaBase
import Derived.Test.YtljdhicmcmppgaaSpot
import Derived.Test.YtljdhicmcmppgaaSlice
import Derived.Test.YtljdhicmcmppgaaChart
import Derived.Test.YtljdhicmcmppgaaForm
import Derived.Test.YtljdhicmcmppgaaInts
import Derived.Test.YtljdhicmcmppgaaIntsL
namespace Go.Proofs.Ytljdhicmcmppgaa
open Go.RowKit Go.Sort

theorem neq_spot (x y u v : Int) (w : World) : (binOp .neq 24 (.agg #[.int .i64 x, .int .i64 y]) (.agg #[.int .i64 u, .int .i64 v])).run Try.prog w = .ok (.bool (!same x y u v)) w := by
  have u3 := Try.underlying3
  have a3 := Try.isAgg3
  have z3 := Try.sizeOf3
  have hS : Try.prog.underlying 24 = some (.struct (Try.prog.fieldsOf 24)) := by kernel_rfl
  have hp : Try.prog.stoodInHeld 24 = false := by kernel_rfl
  unfold same
  rw [run_neq_struct, show (10000 : Nat) = 9999 + 1 from rfl, run_equalIn_agg w 9999 24 _ _ hS hp]
  simp only [Program.fieldsOf, Try.underlying24]
  go_simp
  by_cases h1 : x = u <;> by_cases h2 : y = v <;> simp [h1, h2]
/-- The places below n that D holds of, in order. -/
def chL (D : Nat → Bool) : Nat → List Int
  | 0 => []
  | k + 1 => if D k then chL D k ++ [(k : Int)] else chL D k
theorem chL_len (D : Nat → Bool) : ∀ k, (chL D k).length ≤ k
  | 0 => Nat.le_refl _
  | k + 1 => by
    have := chL_len D k
    unfold chL
    split
    · rw [List.length_append]; simp; omega
    · omega
/-- Where two lists of spots differ. -/
def difB (X Y X' Y' : Nat → Int) (i : Nat) : Bool := !same (X i) (Y i) (X' i) (Y' i)
def cpB (n : Nat) (X Y : Nat → Int) (m : Nat) (X' Y' : Nat → Int) : Bool := (chartB n X Y && chartB m X' Y') && decide (n = m)
def cgN (n : Nat) (X Y : Nat → Int) (m : Nat) (X' Y' : Nat → Int) : Nat := if cpB n X Y m X' Y' then (chL (difB X Y X' Y') n).length else 0
def cgX (n : Nat) (X Y X' Y' : Nat → Int) (i : Nat) : Int := (chL (difB X Y X' Y') n).getD i 0
theorem cgN_le (n : Nat) (X Y : Nat → Int) (m : Nat) (X' Y' : Nat → Int) : cgN n X Y m X' Y' ≤ n := by
  unfold cgN
  split
  · exact chL_len _ _
  · omega
end Go.Proofs.Ytljdhicmcmppgaa
