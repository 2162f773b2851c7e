/-
  asForm, chIf, chOwn: a list handed on if it is a chart; copies.
-/
import Derived.Test.YtbfhfjpfjkdcfaaRows
import Derived.Test.YtbfhfjpfjkdcfaaBase
import Derived.Test.YtbfhfjpfjkdcfaaSpot
import Derived.Test.YtbfhfjpfjkdcfaaSlice
import Derived.Test.YtbfhfjpfjkdcfaaChart
import Derived.Test.YtbfhfjpfjkdcfaaAppend
namespace Go.Proofs.Ytbfhfjpfjkdcfaa
open Go.RowKit Go.Sort

/-- Returned: n spots in new memory, and a Bool. -/
def AnsSB (w : World) (n : Nat) (X Y : Nat → Int) (q : Bool) (e : Ending) (w' : World) : Prop := ∃ v, e = .returned (.tuple #[v, .bool q]) ∧ OwnS w.heap.size w' v n X Y ∧ Below w.heap.size w w'
theorem AnsSB.nil {w w' : World} {X Y : Nat → Int} (hb : Below w.heap.size w w') : AnsSB w 0 X Y false (.returned (.tuple #[.slice none 0 0, .bool false])) w' := ⟨_, rfl, ⟨_, _, rfl, Nat.le_refl _, fun h => absurd h (by omega)⟩, hb⟩
def sel (q : Bool) (n : Nat) : Nat := if q then n else 0
theorem sel_le (q : Bool) (n : Nat) : sel q n ≤ n := by unfold sel; split <;> omega
/-- The list if q, else nil. -/
def selV (q : Bool) (v : Value) : Value := if q then v else .slice none 0 0
theorem selV_own {base : Nat} {w : World} {v : Value} {n : Nat} {X Y : Nat → Int} (q : Bool) (h : OwnS base w v n X Y) : OwnS base w (selV q v) (sel q n) X Y := by
  cases q with
  | true => exact h
  | false => exact ⟨_, _, rfl, Nat.le_refl _, fun h => absurd h (by simp [sel])⟩
theorem AnsSB.sel {w w' : World} {v : Value} {n : Nat} {X Y : Nat → Int} {q : Bool} (h : OwnS w.heap.size w' v n X Y) (hb : Below w.heap.size w w') : AnsSB w (sel q n) X Y q (.returned (.tuple #[selV q v, .bool q])) w' := ⟨_, rfl, selV_own q h, hb⟩
end Go.Proofs.Ytbfhfjpfjkdcfaa
