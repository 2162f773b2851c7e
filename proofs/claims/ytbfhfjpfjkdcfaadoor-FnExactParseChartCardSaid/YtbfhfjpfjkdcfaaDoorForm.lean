/-
  asForm, chIf, chOwn: a list handed on if it is a chart; copies.
-/
import Derived.Test.YtbfhfjpfjkdcfaaDoorRows
import Derived.Test.YtbfhfjpfjkdcfaaDoorBase
import Derived.Test.YtbfhfjpfjkdcfaaDoorSpot
import Derived.Test.YtbfhfjpfjkdcfaaDoorSlice
import Derived.Test.YtbfhfjpfjkdcfaaDoorChart
import Derived.Test.YtbfhfjpfjkdcfaaDoorAppend
namespace Go.Proofs.YtbfhfjpfjkdcfaaDoor
open Go.RowKit Go.Sort

/-- Returned: n spots in new memory, and a Bool. -/
def AnsSB (w : World) (n : Nat) (X Y : Nat → Int) (q : Bool) (e : Ending) (w' : World) : Prop := ∃ v, e = .returned (.tuple #[v, .bool q]) ∧ OwnS w.heap.size w' v n X Y ∧ Below w.heap.size w w'
theorem AnsSB.nil {w w' : World} {X Y : Nat → Int} (hb : Below w.heap.size w w') : AnsSB w 0 X Y false (.returned (.tuple #[.slice none 0 0, .bool false])) w' := ⟨_, rfl, ⟨_, _, rfl, Nat.le_refl _, fun h => absurd h (by omega)⟩, hb⟩
def sel (q : Bool) (n : Nat) : Nat := if q then n else 0
theorem sel_le (q : Bool) (n : Nat) : sel q n ≤ n := by unfold sel; split <;> omega
/-- The list if q, else nil. -/
def selV (q : Bool) (v : Value) : Value := if q then v else .slice none 0 0
theorem selV_own {base : Nat} {w : World} {v : Value} {n : Nat} {X Y : Nat → Int} (q : Bool) (h : OwnS base w v n X Y) : OwnS base w (selV q v) (sel q n) X Y := by
  cases q with
  | true => exact h
  | false => exact ⟨_, _, rfl, Nat.le_refl _, fun h => absurd h (by simp [sel])⟩
theorem AnsSB.sel {w w' : World} {v : Value} {n : Nat} {X Y : Nat → Int} {q : Bool} (h : OwnS w.heap.size w' v n X Y) (hb : Below w.heap.size w w') : AnsSB w (sel q n) X Y q (.returned (.tuple #[selV q v, .bool q])) w' := ⟨_, rfl, selV_own q h, hb⟩
set_option maxHeartbeats 400000 in
theorem asForm_g (v : Value) (n : Nat) (X Y : Nat → Int) (w : World) (h : Spots w v n X Y) (hn : n ≤ 9223372036854775807) :
    Calls Tryd.prog 17 #[v] w (Ans w (.tuple #[selV (chartB n X Y) v, .bool (chartB n X Y)])) := by
  have HC := Lib.hid (isChart_g v n X Y w h hn)
  clear h
  generalize chartB n X Y = q at *
  cases q <;> (
    go_enter Tryd.func17, Tryd.ntmps17
    go_wp2_with ((go_at_call 22; refine (HC.out).mono ?_; rintro e w1 ⟨rfl, hb⟩))
    go_ret2
    exact ⟨rfl, by (repeat (first | with_reducible exact Below.refl _ _ | with_reducible assumption | with_reducible refine up_alloc ?_ _ | with_reducible refine up_drew ?_ | with_reducible refine up_drewN ?_ _ | (with_reducible refine up_set ?_ ?hset _; case hset => first | (simp; done) | (simp; omega) | omega) | with_reducible refine up_trans ?_ (by with_reducible assumption)))⟩)
end Go.Proofs.YtbfhfjpfjkdcfaaDoor
