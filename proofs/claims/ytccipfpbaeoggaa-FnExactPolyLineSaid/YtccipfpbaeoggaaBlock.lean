/-
  BlockOf on both sides.
-/
import Derived.Test.YtccipfpbaeoggaaRows
import Derived.Test.YtccipfpbaeoggaaBase
import Derived.Test.YtccipfpbaeoggaaSpot
import Derived.Test.YtccipfpbaeoggaaSlice
import Derived.Test.YtccipfpbaeoggaaChart
import Derived.Test.YtccipfpbaeoggaaAppend
import Derived.Test.YtccipfpbaeoggaaAppendE
import Derived.Test.YtccipfpbaeoggaaForm
import Derived.Test.YtccipfpbaeoggaaLawS
import Derived.Test.YtccipfpbaeoggaaMark
import Derived.Test.YtccipfpbaeoggaaOpen
namespace Go.Proofs.Ytccipfpbaeoggaa
open Go.RowKit Go.Sort Go.ChangeShapes Go.WideShapes

set_option maxHeartbeats 400000 in
theorem fmCount_any (n : Int) (w : World) : Calls Try.prog 64 #[.int .i64 n] w fun e w' => e = .returned (.bool (inB n 1 12)) ∧ w = w' := by
  go_enter Try.func64, Try.ntmps64
  go_wp2_with ((go_at_call 71; refine (l1In_any _ _ _ _).mono ?_; rintro e w1 ⟨rfl, rfl⟩))
  go_ret
  exact ⟨rfl, rfl⟩
/-- The block's spots. -/
def blX (x fx : Int) (F : Nat) (i : Nat) : Int := x + fx * ((i % F : Nat) : Int)
def blY (y fy : Int) (F : Nat) (i : Nat) : Int := y + fy * ((i / F : Nat) : Int)
def blOk (x y rows files fx fy : Int) : Bool := spotB x y && inB rows 1 12 && inB files 1 12 && inB fx (-200) 200 && inB fy (-200) 200
def blB (x y rows files fx fy : Int) : Bool := blOk x y rows files fx fy && chartB (rows * files).toNat (blX x fx files.toNat) (blY y fy files.toNat)
theorem bl_at (x fx : Int) (F r f : Nat) (h : f < F) : blX x fx F (r * F + f) = x + fx * (f : Int) := by
  unfold blX; rw [show (r * F + f) % F = f by rw [Nat.add_comm, Nat.add_mul_mod_self_right]; exact Nat.mod_eq_of_lt h]
theorem bl_at' (y fy : Int) (F r f : Nat) (h : f < F) : blY y fy F (r * F + f) = y + fy * (r : Int) := by
  unfold blY; rw [show (r * F + f) / F = r by rw [Nat.add_comm, Nat.add_mul_div_right _ _ (by omega), Nat.div_eq_of_lt h, Nat.zero_add]]
end Go.Proofs.Ytccipfpbaeoggaa
