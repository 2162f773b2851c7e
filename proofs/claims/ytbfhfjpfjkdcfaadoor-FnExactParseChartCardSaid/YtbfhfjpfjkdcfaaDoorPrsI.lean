/-
  The reference makes a spot of two numbers.
-/
import Derived.Test.YtbfhfjpfjkdcfaaDoorRows
import Derived.Test.YtbfhfjpfjkdcfaaDoorBase
import Derived.Test.YtbfhfjpfjkdcfaaDoorSpot
import Derived.Test.YtbfhfjpfjkdcfaaDoorSlice
namespace Go.Proofs.YtbfhfjpfjkdcfaaDoor
open Go.RowKit Go.ChangeShapes Go.WideShapes Go.Sort Go.Proofs

def ifV (x y : Int) : Value := if spotB x y = true then .tuple #[.agg #[.int .i64 x, .int .i64 y], .bool true] else .tuple #[.agg #[.int .i64 0, .int .i64 0], .bool false]
set_option maxRecDepth 100000 in
set_option maxHeartbeats 2000000 in
theorem stIf_s (x y : Int) (w : World) : Calls Tryd.prog 39 #[.int .i64 x, .int .i64 y] w (Ans w (ifV x y)) := by
  have HI := Lib.hid (stGood_any x y)
  cases hs : spotB x y with
  | true =>
    have HD := Lib.hid (show ifV x y = .tuple #[.agg #[.int .i64 x, .int .i64 y], .bool true] by unfold ifV; rw [hs]; rfl)
    rw [hs] at HI
    clear hs
    go_enter Tryd.func39, Tryd.ntmps39
    have g0 := (cell_new2 w (.int .i64 0) (.int .i64 0) 38).1
    have g1 := (cell_new2 w (.int .i64 0) (.int .i64 0) 38).2
    have g2 := up_keep (below_alloc (w.alloc (.cells #[.int .i64 0, .int .i64 0] 38)) (.cells #[.int .i64 x, .int .i64 y] 38)) g0
    have g3 := up_keep (below_alloc (w.alloc (.cells #[.int .i64 0, .int .i64 0] 38)) (.cells #[.int .i64 x, .int .i64 y] 38)) g1
    go_wp2_with ((go_at_call 30; refine (from0 (HI.out _) (by first | exact hb0 | exact up_alloc hb0 _ | exact up_drew hb0 | exact up_drewN hb0 _ | exact Below.refl _ _)).mono ?_; rintro e w1 ⟨rfl, hb0⟩; obtain ⟨hc0, hf0⟩ := bcell hb0; have hz0 := hb0.size; simp at hz0; have hz1 : w.heap.size < w1.heap.size := (by omega); try have hz2 : w.heap.size + 1 < w1.heap.size := (by omega)))
    have q0 := up_keep hb0 g2
    have q1 := up_keep hb0 g3
    have r0 : ((w1.setCell ⟨w.heap.size, 0, none⟩ (.int .i64 x)).setCell ⟨w.heap.size, 1, none⟩ (.int .i64 y)).cell? ⟨w.heap.size, 0, none⟩ = some (.int .i64 x) := by
      rw [cell_set_ne _ _ _ _ _ _ (.inr (by omega))]; exact cell_set_same _ _ _ _ _ q0
    have r1 : ((w1.setCell ⟨w.heap.size, 0, none⟩ (.int .i64 x)).setCell ⟨w.heap.size, 1, none⟩ (.int .i64 y)).cell? ⟨w.heap.size, 1, none⟩ = some (.int .i64 y) :=
      cell_set_same _ _ _ _ _ (by rw [cell_set_ne _ _ _ _ _ _ (.inr (by omega))]; exact q1)
    refine bodyPost_ret (v := .tuple #[.agg #[.int .i64 x, .int .i64 y], .bool true]) (by simp [results, Tryd.results39, go_sem, *]) rfl ?_
    rw [HD.out]
    exact ⟨rfl, by (repeat (first | with_reducible exact Below.refl _ _ | with_reducible assumption | with_reducible refine up_alloc ?_ _ | with_reducible refine up_drew ?_ | with_reducible refine up_drewN ?_ _ | (with_reducible refine up_set ?_ ?hset _; case hset => first | (simp; done) | (simp; omega) | omega) | with_reducible refine up_trans ?_ (by with_reducible assumption)))⟩
  | false =>
    have HD := Lib.hid (show ifV x y = .tuple #[.agg #[.int .i64 0, .int .i64 0], .bool false] by unfold ifV; rw [hs]; rfl)
    rw [hs] at HI
    clear hs
    go_enter Tryd.func39, Tryd.ntmps39
    have g0 := (cell_new2 w (.int .i64 0) (.int .i64 0) 38).1
    have g1 := (cell_new2 w (.int .i64 0) (.int .i64 0) 38).2
    have g2 := up_keep (below_alloc (w.alloc (.cells #[.int .i64 0, .int .i64 0] 38)) (.cells #[.int .i64 x, .int .i64 y] 38)) g0
    have g3 := up_keep (below_alloc (w.alloc (.cells #[.int .i64 0, .int .i64 0] 38)) (.cells #[.int .i64 x, .int .i64 y] 38)) g1
    go_wp2_with ((go_at_call 30; refine (from0 (HI.out _) (by first | exact hb0 | exact up_alloc hb0 _ | exact up_drew hb0 | exact up_drewN hb0 _ | exact Below.refl _ _)).mono ?_; rintro e w1 ⟨rfl, hb0⟩; obtain ⟨hc0, hf0⟩ := bcell hb0; have hz0 := hb0.size; simp at hz0; have hz1 : w.heap.size < w1.heap.size := (by omega); try have hz2 : w.heap.size + 1 < w1.heap.size := (by omega)))
    have q0 := up_keep hb0 g2
    have q1 := up_keep hb0 g3
    have r0 : ((w1.setCell ⟨w.heap.size, 0, none⟩ (.int .i64 0)).setCell ⟨w.heap.size, 1, none⟩ (.int .i64 0)).cell? ⟨w.heap.size, 0, none⟩ = some (.int .i64 0) := by
      rw [cell_set_ne _ _ _ _ _ _ (.inr (by omega))]; exact cell_set_same _ _ _ _ _ q0
    have r1 : ((w1.setCell ⟨w.heap.size, 0, none⟩ (.int .i64 0)).setCell ⟨w.heap.size, 1, none⟩ (.int .i64 0)).cell? ⟨w.heap.size, 1, none⟩ = some (.int .i64 0) :=
      cell_set_same _ _ _ _ _ (by rw [cell_set_ne _ _ _ _ _ _ (.inr (by omega))]; exact q1)
    refine bodyPost_ret (v := .tuple #[.agg #[.int .i64 0, .int .i64 0], .bool false]) (by simp [results, Tryd.results39, go_sem, *]) rfl ?_
    rw [HD.out]
    exact ⟨rfl, by (repeat (first | with_reducible exact Below.refl _ _ | with_reducible assumption | with_reducible refine up_alloc ?_ _ | with_reducible refine up_drew ?_ | with_reducible refine up_drewN ?_ _ | (with_reducible refine up_set ?_ ?hset _; case hset => first | (simp; done) | (simp; omega) | omega) | with_reducible refine up_trans ?_ (by with_reducible assumption)))⟩
end Go.Proofs.YtbfhfjpfjkdcfaaDoor
