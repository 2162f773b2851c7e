/-
  Where a move stands on a count, and two moves' square there: both sides.
-/
import Derived.Test.YtljdhicmcmppgaaRows
import Derived.Test.YtljdhicmcmppgaaBase
import Derived.Test.YtljdhicmcmppgaaSpot
import Derived.Test.YtljdhicmcmppgaaMove
import Derived.Test.YtljdhicmcmppgaaGcd
namespace Go.Proofs.Ytljdhicmcmppgaa
open Go.RowKit Go.Sort

/-- c times a coordinate after s of c counts. -/
def pAt (x u c s : Int) : Int := x * c + s * (u - x)
theorem pAt_bd {x u c s K : Int} (hx : 0 ≤ x) (hx' : x ≤ K) (hu : 0 ≤ u) (hu' : u ≤ K) (hc : 1 ≤ c) (hc' : c ≤ 64) (hs : 0 ≤ s) (hs' : s ≤ c) :
    (-(K * 64) ≤ x * c ∧ x * c ≤ K * 64) ∧ (-(64 * K) ≤ s * (u - x) ∧ s * (u - x) ≤ 64 * K) :=
  ⟨mul_bd (by omega) hx' (by omega) hc', mul_bd (by omega) (by omega) (by omega) (by omega)⟩
set_option maxHeartbeats 2000000 in
theorem placeAt_any (x y u v c s : Int) (h : moveB x y u v c = true) (hs : 0 ≤ s) (hs' : s ≤ c) (w : World) :
    Calls Try.prog 48 #[.agg #[.int .i64 x, .int .i64 y, .int .i64 u, .int .i64 v, .int .i64 c], .int .i64 s] w (Ans w (.tuple #[.int .i64 (pAt x u c s), .int .i64 (pAt y v c s)])) := by
  obtain ⟨⟨h1, h2⟩, h3, h4⟩ := moveB_iff.1 h
  obtain ⟨⟨a1, a2⟩, a3, a4⟩ := spotB_iff.1 h1
  obtain ⟨⟨b1, b2⟩, b3, b4⟩ := spotB_iff.1 h2
  obtain ⟨⟨c1, c2⟩, c3, c4⟩ := pAt_bd (K := 1280) a1 a2 b1 b2 h3 h4 hs hs'
  obtain ⟨⟨d1, d2⟩, d3, d4⟩ := pAt_bd (K := 672) a3 a4 b3 b4 h3 h4 hs hs'
  have H := Lib.hid (show pAt x u c s = x * c + s * (u - x) ∧ pAt y v c s = y * c + s * (v - y) from ⟨rfl, rfl⟩)
  clear h h1 h2
  go_enter Try.func48, Try.ntmps48
  go_wp2
  generalize hW : World.alloc _ _ = W
  have hb : Below w.heap.size w W := by subst hW; (repeat (first | with_reducible exact Below.refl _ _ | with_reducible assumption | with_reducible refine up_alloc ?_ _ | with_reducible refine up_drew ?_ | with_reducible refine up_drewN ?_ _ | (with_reducible refine up_set ?_ ?hset _; case hset => first | (simp; done) | (simp; omega) | omega) | with_reducible refine up_trans ?_ (by with_reducible assumption)))
  have q0 := cell_regrown (show W.cell? ⟨w.heap.size, 0, none⟩ = some (.int .i64 x) by subst hW; simp [go_sem])
  have q1 := cell_regrown (show W.cell? ⟨w.heap.size, 1, none⟩ = some (.int .i64 y) by subst hW; simp [go_sem])
  have q2 := cell_regrown (show W.cell? ⟨w.heap.size, 2, none⟩ = some (.int .i64 u) by subst hW; simp [go_sem])
  have q3 := cell_regrown (show W.cell? ⟨w.heap.size, 3, none⟩ = some (.int .i64 v) by subst hW; simp [go_sem])
  have q4 := cell_regrown (show W.cell? ⟨w.heap.size, 4, none⟩ = some (.int .i64 c) by subst hW; simp [go_sem])
  clear hW
  refine wp_region_up (by kernel_rfl) (by kernel_rfl) ?_
  repeat (go_big_quiet_step (fail))
  refine wpQuiet_nil ?_
  intro w1 hb0
  obtain ⟨hc0, hf0⟩ := bcell hb0
  go_wp2
  go_ret2
  exact Ans.int2 (by rw [H.out.1]) (by rw [H.out.2]) (up_trans hb hb0)
set_option maxHeartbeats 2000000 in
theorem mvAt_any (x y u v c s : Int) (h : moveB x y u v c = true) (hs : 0 ≤ s) (hs' : s ≤ c) (w : World) :
    Calls Try.prog 53 #[.agg #[.int .i64 x, .int .i64 y, .int .i64 u, .int .i64 v, .int .i64 c], .int .i64 s] w (Ans w (.tuple #[.int .i64 (pAt x u c s), .int .i64 (pAt y v c s)])) := by
  obtain ⟨⟨h1, h2⟩, h3, h4⟩ := moveB_iff.1 h
  obtain ⟨⟨a1, a2⟩, a3, a4⟩ := spotB_iff.1 h1
  obtain ⟨⟨b1, b2⟩, b3, b4⟩ := spotB_iff.1 h2
  obtain ⟨⟨c1, c2⟩, c3, c4⟩ := pAt_bd (K := 1280) a1 a2 b1 b2 h3 h4 hs hs'
  obtain ⟨⟨d1, d2⟩, d3, d4⟩ := pAt_bd (K := 672) a3 a4 b3 b4 h3 h4 hs hs'
  rw [Int.mul_comm s (u - x)] at c3 c4; rw [Int.mul_comm s (v - y)] at d3 d4
  have H := Lib.hid (show pAt x u c s = x * c + (u - x) * s ∧ pAt y v c s = y * c + (v - y) * s from ⟨by unfold pAt; rw [Int.mul_comm s], by unfold pAt; rw [Int.mul_comm s]⟩)
  clear h h1 h2
  go_enter Try.func53, Try.ntmps53
  go_wp2
  generalize hW : World.alloc _ _ = W
  have hb : Below w.heap.size w W := by subst hW; (repeat (first | with_reducible exact Below.refl _ _ | with_reducible assumption | with_reducible refine up_alloc ?_ _ | with_reducible refine up_drew ?_ | with_reducible refine up_drewN ?_ _ | (with_reducible refine up_set ?_ ?hset _; case hset => first | (simp; done) | (simp; omega) | omega) | with_reducible refine up_trans ?_ (by with_reducible assumption)))
  have q0 := cell_regrown (show W.cell? ⟨w.heap.size, 0, none⟩ = some (.int .i64 x) by subst hW; simp [go_sem])
  have q1 := cell_regrown (show W.cell? ⟨w.heap.size, 1, none⟩ = some (.int .i64 y) by subst hW; simp [go_sem])
  have q2 := cell_regrown (show W.cell? ⟨w.heap.size, 2, none⟩ = some (.int .i64 u) by subst hW; simp [go_sem])
  have q3 := cell_regrown (show W.cell? ⟨w.heap.size, 3, none⟩ = some (.int .i64 v) by subst hW; simp [go_sem])
  have q4 := cell_regrown (show W.cell? ⟨w.heap.size, 4, none⟩ = some (.int .i64 c) by subst hW; simp [go_sem])
  clear hW
  refine wp_region_up (by kernel_rfl) (by kernel_rfl) ?_
  repeat (go_big_quiet_step (fail))
  refine wpQuiet_nil ?_
  intro w1 hb0
  obtain ⟨hc0, hf0⟩ := bcell hb0
  go_wp2
  go_ret2
  exact Ans.int2 (by rw [H.out.1]) (by rw [H.out.2]) (up_trans hb hb0)
end Go.Proofs.Ytljdhicmcmppgaa
