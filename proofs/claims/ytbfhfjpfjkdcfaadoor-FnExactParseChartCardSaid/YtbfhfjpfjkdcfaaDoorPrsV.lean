/-
  The reference reads a spot: where one of the two pieces is no number of steps.
-/
import Derived.Test.YtbfhfjpfjkdcfaaDoorRows
import Derived.Test.YtbfhfjpfjkdcfaaDoorBase
import Derived.Test.YtbfhfjpfjkdcfaaDoorSpot
import Derived.Test.YtbfhfjpfjkdcfaaDoorSlice
import Derived.Test.YtbfhfjpfjkdcfaaDoorTxtP
import Derived.Test.YtbfhfjpfjkdcfaaDoorPrsP
import Derived.Test.YtbfhfjpfjkdcfaaDoorPrsN
import Derived.Test.YtbfhfjpfjkdcfaaDoorPrsS
import Derived.Test.YtbfhfjpfjkdcfaaDoorPrsR
import Derived.Test.YtbfhfjpfjkdcfaaDoorPrsT
namespace Go.Proofs.YtbfhfjpfjkdcfaaDoor
open Go.RowKit Go.ChangeShapes Go.WideShapes Go.Sort Go.Proofs

set_option maxRecDepth 100000 in
set_option maxHeartbeats 2000000 in
theorem stParse_bad1 (l p q : List UInt8) (w : World) (hl : l.length ≤ 1048576) (hs2 : splitL 44 l = [p, q]) (hc : cut1 44 l = some (p, q)) (hp : rdL 6 p = none) : Calls Tryd.prog 25 #[.string (bS l)] w (Ans w (spW (spP 6 l))) := by
  have hpl : p.length ≤ 1048576 := by
    have := congrArg List.length (cut1_some.1 hc).1
    simp at this
    omega
  have HS := Lib.hid (fun W => l1Split_s l 44 W hl)
  have HP := Lib.hid (fun W => stRead_s p W hpl)
  rw [hp, show rdV none = -1 from rfl] at HP
  have HD := Lib.hid (show spW (spP 6 l) = .tuple #[.agg #[.int .i64 0, .int .i64 0], .bool false] by unfold spP; rw [hc]; simp only; rw [hp]; rfl)
  have HN := Lib.hid hs2
  clear hs2 hc hp hpl
  go_enter Tryd.func25, Tryd.ntmps25
  have g0 := (cell_new2 w (.int .i64 0) (.int .i64 0) 38).1
  have g1 := (cell_new2 w (.int .i64 0) (.int .i64 0) 38).2
  go_wp2_with (go_at_call 24; refine (HS.out _).mono ?_)
  rintro e w1 ⟨v, rfl, hs, hb1⟩
  rw [HN.out] at hs
  obtain ⟨b, o, c, rfl, hc1, hx, hy⟩ := hs.two
  clear hs
  go_wp2_with (go_at_call 38; refine (HP.out _).mono ?_)
  rintro e w2 ⟨rfl, hb2⟩
  have hb0 := up_trans hb1 hb2
  obtain ⟨hc0, hf0⟩ := bcell hb0
  have hz1 : w.heap.size < w2.heap.size := by have := hb0.size; simp at this; omega
  have q0 := up_keep hb0 g0
  have q1 := up_keep hb0 g1
  have r0 : ((w2.setCell ⟨w.heap.size, 0, none⟩ (.int .i64 0)).setCell ⟨w.heap.size, 1, none⟩ (.int .i64 0)).cell? ⟨w.heap.size, 0, none⟩ = some (.int .i64 0) := by
    rw [cell_set_ne _ _ _ _ _ _ (.inr (by omega))]; exact cell_set_same _ _ _ _ _ q0
  have r1 : ((w2.setCell ⟨w.heap.size, 0, none⟩ (.int .i64 0)).setCell ⟨w.heap.size, 1, none⟩ (.int .i64 0)).cell? ⟨w.heap.size, 1, none⟩ = some (.int .i64 0) :=
    cell_set_same _ _ _ _ _ (by rw [cell_set_ne _ _ _ _ _ _ (.inr (by omega))]; exact q1)
  go_wp2_with fail
  refine bodyPost_ret (v := .tuple #[.agg #[.int .i64 0, .int .i64 0], .bool false]) (by simp [results, Tryd.results25, go_sem, *]) rfl ?_
  rw [HD.out]
  exact ⟨rfl, by (repeat (first | with_reducible exact Below.refl _ _ | with_reducible assumption | with_reducible refine up_alloc ?_ _ | with_reducible refine up_drew ?_ | with_reducible refine up_drewN ?_ _ | (with_reducible refine up_set ?_ ?hset _; case hset => first | (simp; done) | (simp; omega) | omega) | with_reducible refine up_trans ?_ (by with_reducible assumption)))⟩
set_option maxRecDepth 100000 in
set_option maxHeartbeats 2000000 in
theorem stParse_bad2 (l p q : List UInt8) (w : World) (hl : l.length ≤ 1048576) (hs2 : splitL 44 l = [p, q]) (hc : cut1 44 l = some (p, q)) (x : Nat) (hp : rdL 6 p = some x) (hq : rdL 6 q = none) : Calls Tryd.prog 25 #[.string (bS l)] w (Ans w (spW (spP 6 l))) := by
  have hll : p.length ≤ 1048576 ∧ q.length ≤ 1048576 := by
    have := congrArg List.length (cut1_some.1 hc).1
    simp at this
    omega
  have HS := Lib.hid (fun W => l1Split_s l 44 W hl)
  have HP := Lib.hid (fun W => stRead_s p W hll.1)
  have HQ := Lib.hid (fun W => stRead_s q W hll.2)
  rw [hp, show rdV (some x) = (x : Int) from rfl] at HP
  rw [hq, show rdV none = -1 from rfl] at HQ
  have jx : 0 ≤ (x : Int) := by omega
  have HD := Lib.hid (show spW (spP 6 l) = .tuple #[.agg #[.int .i64 0, .int .i64 0], .bool false] by unfold spP; rw [hc]; simp only; rw [hp, hq]; rfl)
  have HN := Lib.hid hs2
  clear hs2 hc hp hq hll
  go_enter Tryd.func25, Tryd.ntmps25
  have g0 := (cell_new2 w (.int .i64 0) (.int .i64 0) 38).1
  have g1 := (cell_new2 w (.int .i64 0) (.int .i64 0) 38).2
  go_wp2_with (go_at_call 24; refine (HS.out _).mono ?_)
  rintro e w1 ⟨v, rfl, hs, hb1⟩
  rw [HN.out] at hs
  obtain ⟨b, o, c, rfl, hc1, hx, hy⟩ := hs.two
  clear hs
  go_wp2_with (go_at_call 38; (with_reducible show Calls Tryd.prog _ #[.string (bS p)] _ _); refine (HP.out _).mono ?_)
  rintro e w3 ⟨rfl, hb3⟩
  have hy3 := up_keep hb3 hy
  go_wp2_with (go_at_call 38; (with_reducible show Calls Tryd.prog _ #[.string (bS q)] _ _); refine (HQ.out _).mono ?_)
  rintro e w2 ⟨rfl, hb2⟩
  have hb0 := up_trans (up_trans hb1 hb3) hb2
  obtain ⟨hc0, hf0⟩ := bcell hb0
  have hz1 : w.heap.size < w2.heap.size := by have := hb0.size; simp at this; omega
  have q0 := up_keep hb0 g0
  have q1 := up_keep hb0 g1
  have r0 : ((w2.setCell ⟨w.heap.size, 0, none⟩ (.int .i64 0)).setCell ⟨w.heap.size, 1, none⟩ (.int .i64 0)).cell? ⟨w.heap.size, 0, none⟩ = some (.int .i64 0) := by
    rw [cell_set_ne _ _ _ _ _ _ (.inr (by omega))]; exact cell_set_same _ _ _ _ _ q0
  have r1 : ((w2.setCell ⟨w.heap.size, 0, none⟩ (.int .i64 0)).setCell ⟨w.heap.size, 1, none⟩ (.int .i64 0)).cell? ⟨w.heap.size, 1, none⟩ = some (.int .i64 0) :=
    cell_set_same _ _ _ _ _ (by rw [cell_set_ne _ _ _ _ _ _ (.inr (by omega))]; exact q1)
  go_wp2_with fail
  refine bodyPost_ret (v := .tuple #[.agg #[.int .i64 0, .int .i64 0], .bool false]) (by simp [results, Tryd.results25, go_sem, *]) rfl ?_
  rw [HD.out]
  exact ⟨rfl, by (repeat (first | with_reducible exact Below.refl _ _ | with_reducible assumption | with_reducible refine up_alloc ?_ _ | with_reducible refine up_drew ?_ | with_reducible refine up_drewN ?_ _ | (with_reducible refine up_set ?_ ?hset _; case hset => first | (simp; done) | (simp; omega) | omega) | with_reducible refine up_trans ?_ (by with_reducible assumption)))⟩
end Go.Proofs.YtbfhfjpfjkdcfaaDoor
