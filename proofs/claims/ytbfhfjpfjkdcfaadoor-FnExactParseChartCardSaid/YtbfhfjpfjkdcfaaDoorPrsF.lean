/-
  The program takes a list as a form where it is a chart.
-/
import Derived.Test.YtbfhfjpfjkdcfaaDoorRows
import Derived.Test.YtbfhfjpfjkdcfaaDoorBase
import Derived.Test.YtbfhfjpfjkdcfaaDoorSpot
import Derived.Test.YtbfhfjpfjkdcfaaDoorSlice
import Derived.Test.YtbfhfjpfjkdcfaaDoorChart
namespace Go.Proofs.YtbfhfjpfjkdcfaaDoor
open Go.RowKit Go.ChangeShapes Go.WideShapes Go.Sort Go.Proofs

set_option maxHeartbeats 1000000 in
theorem asForm_s (v : Value) (n : Nat) (X Y : Nat → Int) (w : World) (h : Spots w v n X Y) (hn : n ≤ 9223372036854775807) :
    Calls Tryd.prog 17 #[v] w (Ans w (.tuple #[if chartB n X Y = true then v else .slice none 0 0, .bool (chartB n X Y)])) := by
  have HG := Lib.hid (isChart_g v n X Y w h hn)
  cases hc : chartB n X Y with
  | false =>
    rw [hc] at HG
    have HD := Lib.hid (show (if false = true then v else Value.slice none 0 0) = .slice none 0 0 from rfl)
    rw [HD.out]
    clear hc HD h
    go_enter Tryd.func17, Tryd.ntmps17
    go_wp2_with ((go_at_call 22; refine (from0 (HG.out) (by first | exact hb0 | exact up_alloc hb0 _ | exact up_drew hb0 | exact up_drewN hb0 _ | exact Below.refl _ _)).mono ?_; rintro e w1 ⟨rfl, hb0⟩; obtain ⟨hc0, hf0⟩ := bcell hb0))
    go_ret2
    exact ⟨rfl, by (repeat (first | with_reducible exact Below.refl _ _ | with_reducible assumption | with_reducible refine up_alloc ?_ _ | with_reducible refine up_drew ?_ | with_reducible refine up_drewN ?_ _ | (with_reducible refine up_set ?_ ?hset _; case hset => first | (simp; done) | (simp; omega) | omega) | with_reducible refine up_trans ?_ (by with_reducible assumption)))⟩
  | true =>
    rw [hc] at HG
    have HD := Lib.hid (show (if true = true then v else Value.slice none 0 0) = v from rfl)
    rw [HD.out]
    clear hc HD h
    go_enter Tryd.func17, Tryd.ntmps17
    go_wp2_with ((go_at_call 22; refine (from0 (HG.out) (by first | exact hb0 | exact up_alloc hb0 _ | exact up_drew hb0 | exact up_drewN hb0 _ | exact Below.refl _ _)).mono ?_; rintro e w1 ⟨rfl, hb0⟩; obtain ⟨hc0, hf0⟩ := bcell hb0))
    go_ret2
    exact ⟨rfl, by (repeat (first | with_reducible exact Below.refl _ _ | with_reducible assumption | with_reducible refine up_alloc ?_ _ | with_reducible refine up_drew ?_ | with_reducible refine up_drewN ?_ _ | (with_reducible refine up_set ?_ ?hset _; case hset => first | (simp; done) | (simp; omega) | omega) | with_reducible refine up_trans ?_ (by with_reducible assumption)))⟩
end Go.Proofs.YtbfhfjpfjkdcfaaDoor
