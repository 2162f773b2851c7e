/-
  asForm, chIf, chOwn: a list handed on if it is a chart; copies.
-/
import Derived.Test.YtljbcfgecbonnaaRows
import Derived.Test.YtljbcfgecbonnaaBase
import Derived.Test.YtljbcfgecbonnaaSpot
import Derived.Test.YtljbcfgecbonnaaSlice
import Derived.Test.YtljbcfgecbonnaaChart
import Derived.Test.YtljbcfgecbonnaaAppend
namespace Go.Proofs.Ytljbcfgecbonnaa
open Go.RowKit Go.Sort

/-- Returned: n spots in new memory, and a Bool. -/
def AnsSB (w : World) (n : Nat) (X Y : Nat → Int) (q : Bool) (e : Ending) (w' : World) : Prop := ∃ v, e = .returned (.tuple #[v, .bool q]) ∧ OwnS w.heap.size w' v n X Y ∧ Below w.heap.size w w'
theorem AnsSB.nil {w w' : World} {X Y : Nat → Int} (hb : Below w.heap.size w w') : AnsSB w 0 X Y false (.returned (.tuple #[.slice none 0 0, .bool false])) w' := ⟨_, rfl, ⟨_, _, rfl, Nat.le_refl _, fun h => absurd h (by omega)⟩, hb⟩
def sel (q : Bool) (n : Nat) : Nat := if q then n else 0
theorem sel_le (q : Bool) (n : Nat) : sel q n ≤ n := by unfold sel; split <;> omega
/-- The list if q, else nil. -/
def selV (q : Bool) (v : Value) : Value := if q then v else .slice none 0 0
theorem selV_own {base : Nat} {w : World} {v : Value} {n : Nat} {X Y : Nat → Int} (q : Bool) (h : OwnS base w v n X Y) : OwnS base w (selV q v) (sel q n) X Y := by
  cases q with
  | true => exact h
  | false => exact ⟨_, _, rfl, Nat.le_refl _, fun h => absurd h (by simp [sel])⟩
theorem AnsSB.sel {w w' : World} {v : Value} {n : Nat} {X Y : Nat → Int} {q : Bool} (h : OwnS w.heap.size w' v n X Y) (hb : Below w.heap.size w w') : AnsSB w (sel q n) X Y q (.returned (.tuple #[selV q v, .bool q])) w' := ⟨_, rfl, selV_own q h, hb⟩
set_option maxHeartbeats 400000 in
theorem asForm_g (v : Value) (n : Nat) (X Y : Nat → Int) (w : World) (h : Spots w v n X Y) (hn : n ≤ 9223372036854775807) :
    Calls Try.prog 85 #[v] w (Ans w (.tuple #[selV (chartB n X Y) v, .bool (chartB n X Y)])) := by
  have HC := Lib.hid (isChart_g v n X Y w h hn)
  clear h
  generalize chartB n X Y = q at *
  cases q <;> (
    go_enter Try.func85, Try.ntmps85
    go_wp2_with ((go_at_call 13; refine (HC.out).mono ?_; rintro e w1 ⟨rfl, hb⟩))
    go_ret2
    exact ⟨rfl, by (repeat (first | with_reducible exact Below.refl _ _ | with_reducible assumption | with_reducible refine up_alloc ?_ _ | with_reducible refine up_drew ?_ | with_reducible refine up_drewN ?_ _ | (with_reducible refine up_set ?_ ?hset _; case hset => first | (simp; done) | (simp; omega) | omega) | with_reducible refine up_trans ?_ (by with_reducible assumption)))⟩)
set_option maxHeartbeats 400000 in
theorem chIf_g (v : Value) (n : Nat) (X Y : Nat → Int) (w : World) (h : Spots w v n X Y) (hn : n ≤ 9223372036854775807) :
    Calls Try.prog 87 #[v] w (Ans w (.tuple #[selV (chartB n X Y) v, .bool (chartB n X Y)])) := by
  have HC := Lib.hid (chGood_g v n X Y w h hn)
  clear h
  generalize chartB n X Y = q at *
  cases q <;> (
    go_enter Try.func87, Try.ntmps87
    go_wp2_with ((go_at_call 86; refine (HC.out).mono ?_; rintro e w1 ⟨rfl, hb⟩))
    go_ret2
    exact ⟨rfl, by (repeat (first | with_reducible exact Below.refl _ _ | with_reducible assumption | with_reducible refine up_alloc ?_ _ | with_reducible refine up_drew ?_ | with_reducible refine up_drewN ?_ _ | (with_reducible refine up_set ?_ ?hset _; case hset => first | (simp; done) | (simp; omega) | omega) | with_reducible refine up_trans ?_ (by with_reducible assumption)))⟩)
/-- Returned: n spots in a slice of the call's own; nothing that was there has turned. -/
def AnsR (w : World) (n : Nat) (X Y : Nat → Int) (e : Ending) (w' : World) : Prop := ∃ v, e = .returned v ∧ OwnR w.heap.size w' v n X Y ∧ Below w.heap.size w w'
set_option maxHeartbeats 400000 in
theorem chOwn_g (v : Value) (n : Nat) (X Y : Nat → Int) (w : World) (h : Spots w v n X Y) (hn : n ≤ 1048576) :
    Calls Try.prog 88 #[v] w (AnsR w n X Y) := by
  go_enter Try.func88, Try.ntmps88
  go_wp2_with (at_builtin; refine wpList_app_copy rfl (.tmp 3) (.tmp 4) rfl w.heap.size _ v n X Y rfl rfl (OwnR.empty (Nat.le_refl _) _ _) (h.up (by (repeat (first | with_reducible exact Below.refl _ _ | with_reducible assumption | with_reducible refine up_alloc ?_ _ | with_reducible refine up_drew ?_ | with_reducible refine up_drewN ?_ _ | (with_reducible refine up_set ?_ ?hset _; case hset => first | (simp; done) | (simp; omega) | omega) | with_reducible refine up_trans ?_ (by with_reducible assumption))))) (by simp) hn ?_; intro v2 w2 ho2 hb2)
  go_ret
  exact ⟨_, rfl, ho2, (below_alloc _ _).trans hb2⟩
end Go.Proofs.Ytljbcfgecbonnaa
