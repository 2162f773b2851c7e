/-
  The reference reads a spot: where there is no pair of pieces.
-/
import Derived.Test.YtbfhfjpfjkdcfaaDoorRows
import Derived.Test.YtbfhfjpfjkdcfaaDoorBase
import Derived.Test.YtbfhfjpfjkdcfaaDoorSpot
import Derived.Test.YtbfhfjpfjkdcfaaDoorSlice
import Derived.Test.YtbfhfjpfjkdcfaaDoorTxtP
import Derived.Test.YtbfhfjpfjkdcfaaDoorPrsP
import Derived.Test.YtbfhfjpfjkdcfaaDoorPrsS
import Derived.Test.YtbfhfjpfjkdcfaaDoorPrsR
import Derived.Test.YtbfhfjpfjkdcfaaDoorPrsT
namespace Go.Proofs.YtbfhfjpfjkdcfaaDoor
open Go.RowKit Go.ChangeShapes Go.WideShapes Go.Sort Go.Proofs

set_option maxRecDepth 100000 in
set_option maxHeartbeats 2000000 in
theorem stParse_no (l : List UInt8) (w : World) (hl : l.length ≤ 1048576) (h2 : (splitL 44 l).length ≠ 2) : Calls Tryd.prog 25 #[.string (bS l)] w (Ans w (spW (spP 6 l))) := by
  have HS := Lib.hid (fun W => l1Split_s l 44 W hl)
  have HD := Lib.hid (show spW (spP 6 l) = .tuple #[.agg #[.int .i64 0, .int .i64 0], .bool false] by rw [spP_len h2]; rfl)
  obtain ⟨n, hn⟩ : ∃ n, n = (splitL 44 l).length := ⟨_, rfl⟩
  have HN := Lib.hid hn
  rw [← hn] at h2
  clear hn
  have j2 : ¬ (n : Int) = 2 := by omega
  go_enter Tryd.func25, Tryd.ntmps25
  have g0 := (cell_new2 w (.int .i64 0) (.int .i64 0) 38).1
  have g1 := (cell_new2 w (.int .i64 0) (.int .i64 0) 38).2
  go_wp2_with (go_at_call 24; refine (HS.out _).mono ?_)
  rintro e w1 ⟨v, rfl, hs, hb0⟩
  obtain ⟨A, c, rfl, hc, _⟩ := hs
  rw [← HN.out] at hc ⊢
  obtain ⟨hc0, hf0⟩ := bcell hb0
  have hz1 : w.heap.size < w1.heap.size := by have := hb0.size; simp at this; omega
  have q0 := up_keep hb0 g0
  have q1 := up_keep hb0 g1
  have r0 : ((w1.setCell ⟨w.heap.size, 0, none⟩ (.int .i64 0)).setCell ⟨w.heap.size, 1, none⟩ (.int .i64 0)).cell? ⟨w.heap.size, 0, none⟩ = some (.int .i64 0) := by
    rw [cell_set_ne _ _ _ _ _ _ (.inr (by omega))]; exact cell_set_same _ _ _ _ _ q0
  have r1 : ((w1.setCell ⟨w.heap.size, 0, none⟩ (.int .i64 0)).setCell ⟨w.heap.size, 1, none⟩ (.int .i64 0)).cell? ⟨w.heap.size, 1, none⟩ = some (.int .i64 0) :=
    cell_set_same _ _ _ _ _ (by rw [cell_set_ne _ _ _ _ _ _ (.inr (by omega))]; exact q1)
  go_wp2_with fail
  refine bodyPost_ret (v := .tuple #[.agg #[.int .i64 0, .int .i64 0], .bool false]) (by simp [results, Tryd.results25, go_sem, *]) rfl ?_
  rw [HD.out]
  exact ⟨rfl, by (repeat (first | with_reducible exact Below.refl _ _ | with_reducible assumption | with_reducible refine up_alloc ?_ _ | with_reducible refine up_drew ?_ | with_reducible refine up_drewN ?_ _ | (with_reducible refine up_set ?_ ?hset _; case hset => first | (simp; done) | (simp; omega) | omega) | with_reducible refine up_trans ?_ (by with_reducible assumption)))⟩
end Go.Proofs.YtbfhfjpfjkdcfaaDoor
