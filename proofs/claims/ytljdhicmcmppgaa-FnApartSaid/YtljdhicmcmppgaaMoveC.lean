/-
  MoveChart on both sides, and the law.
-/
import Derived.Test.YtljdhicmcmppgaaRows
import Derived.Test.YtljdhicmcmppgaaBase
import Derived.Test.YtljdhicmcmppgaaSpot
import Derived.Test.YtljdhicmcmppgaaSlice
import Derived.Test.YtljdhicmcmppgaaChart
import Derived.Test.YtljdhicmcmppgaaAppend
import Derived.Test.YtljdhicmcmppgaaAppendE
import Derived.Test.YtljdhicmcmppgaaForm
import Derived.Test.YtljdhicmcmppgaaLawS
import Derived.Test.YtljdhicmcmppgaaMark
import Derived.Test.YtljdhicmcmppgaaOpen
import Derived.Test.YtljdhicmcmppgaaTrod
namespace Go.Proofs.Ytljdhicmcmppgaa
open Go.RowKit Go.Sort Go.ChangeShapes Go.WideShapes

def dB (dx dy : Int) : Bool := inB dx (-2000) 2000 && inB dy (-2000) 2000
def msB (x y dx dy : Int) : Bool := (spotB x y && dB dx dy) && spotB (x + dx) (y + dy)
def msV (x y dx dy : Int) : Value := if msB x y dx dy then .tuple #[.agg #[.int .i64 (x + dx), .int .i64 (y + dy)], .bool true] else .tuple #[.agg #[.int .i64 0, .int .i64 0], .bool false]
/-- The moved chart. -/
def mcB (n : Nat) (X Y : Nat → Int) (dx dy : Int) : Bool := (chartB n X Y && dB dx dy) && chartB n (fun i => X i + dx) (fun i => Y i + dy)
theorem mc_no {n : Nat} {X Y : Nat → Int} {dx dy : Int} {k : Nat} (hk : k < n) (h : msB (X k) (Y k) dx dy = false) : mcB n X Y dx dy = false := by
  cases hm : mcB n X Y dx dy with
  | false => rfl
  | true =>
    simp only [mcB, Bool.and_eq_true] at hm
    have h1 := (chartB_iff.1 hm.1.1).2.1 k hk
    have h2 := (chartB_iff.1 hm.2).2.1 k hk
    simp [msB, h1, h2, hm.1.2] at h
theorem mc_yes {n : Nat} {X Y : Nat → Int} {dx dy : Int} (hc : chartB n X Y = true) (h : ∀ k, k < n → msB (X k) (Y k) dx dy = true) : mcB n X Y dx dy = true := by
  have hc' := chartB_iff.1 hc
  have h0 := h 0 (by omega)
  simp only [msB, Bool.and_eq_true] at h0
  have : chartB n (fun i => X i + dx) (fun i => Y i + dy) = true := by
    refine chartB_iff.2 ⟨hc'.1, fun k hk => ?_, ?_⟩
    · have := h k hk
      simp only [msB, Bool.and_eq_true] at this
      exact this.2
    · intro i j hi hj he
      exact hc'.2.2 i j hi hj (by omega)
  simp [mcB, hc, h0.1.2, this]
end Go.Proofs.Ytljdhicmcmppgaa
