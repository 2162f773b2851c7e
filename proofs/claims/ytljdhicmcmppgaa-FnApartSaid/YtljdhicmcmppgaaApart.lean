/-
  How near two moves come.
-/
import Derived.Test.YtljdhicmcmppgaaRows
import Derived.Test.YtljdhicmcmppgaaBase
import Derived.Test.YtljdhicmcmppgaaSpot
import Derived.Test.YtljdhicmcmppgaaMove
import Derived.Test.YtljdhicmcmppgaaGcd
import Derived.Deep.RegionHeld3
namespace Go.Proofs.Ytljdhicmcmppgaa
open Go.RowKit

/-- The way from one move to another one, at the beginning, and how it turns. -/
structure Way (x y u v x' y' u' v' px py vx vy dot sz : Int) : Prop where
  k1 : px = x - x'
  k2 : py = y - y'
  k3 : vx = u - u' - px
  k4 : vy = v - v' - py
  k5 : dot = px * vx + py * vy
  k6 : sz = vx * vx + vy * vy

structure WayBd (px py vx vy dot sz : Int) : Prop where
  p1 : -1280 ≤ px
  p2 : px ≤ 1280
  p3 : -672 ≤ py
  p4 : py ≤ 672
  v1 : -2560 ≤ vx
  v2 : vx ≤ 2560
  v3 : -1344 ≤ vy
  v4 : vy ≤ 1344
  a1 : -3276800 ≤ px * vx
  a2 : px * vx ≤ 3276800
  b1 : -903168 ≤ py * vy
  b2 : py * vy ≤ 903168
  c1 : 0 ≤ vx * vx
  c2 : vx * vx ≤ 6553600
  d1 : 0 ≤ vy * vy
  d2 : vy * vy ≤ 1806336
  e1 : 0 ≤ px * px
  e2 : px * px ≤ 1638400
  f1 : 0 ≤ py * py
  f2 : py * py ≤ 451584
  g1 : -1720320 ≤ px * vy
  g2 : px * vy ≤ 1720320
  h1 : -1720320 ≤ py * vx
  h2 : py * vx ≤ 1720320

theorem Way.bd {x y u v c x' y' u' v' c' px py vx vy dot sz : Int} (h : Way x y u v x' y' u' v' px py vx vy dot sz) (hm : moveB x y u v c = true) (hm' : moveB x' y' u' v' c' = true) : WayBd px py vx vy dot sz := by
  rw [moveB_iff, spotB_iff, spotB_iff] at hm hm'
  have e1 := h.k1
  have e2 := h.k2
  have e3 := h.k3
  have e4 := h.k4
  have p1 : -1280 ≤ px := by omega
  have p2 : px ≤ 1280 := by omega
  have p3 : -672 ≤ py := by omega
  have p4 : py ≤ 672 := by omega
  have v1 : -2560 ≤ vx := by omega
  have v2 : vx ≤ 2560 := by omega
  have v3 : -1344 ≤ vy := by omega
  have v4 : vy ≤ 1344 := by omega
  have a := mul_bd p1 p2 v1 v2
  have b := mul_bd p3 p4 v3 v4
  have c := mul_bd v1 v2 v1 v2
  have d := mul_bd v3 v4 v3 v4
  have e := mul_bd p1 p2 p1 p2
  have f := mul_bd p3 p4 p3 p4
  have g := mul_bd p1 p2 v3 v4
  have k := mul_bd p3 p4 v1 v2
  exact ⟨p1, p2, p3, p4, v1, v2, v3, v4, by omega, by omega, by omega, by omega, sq_nonneg _, by omega, sq_nonneg _, by omega, sq_nonneg _, by omega, sq_nonneg _, by omega, by omega, by omega, by omega, by omega⟩
set_option maxHeartbeats 400000 in
theorem between_any (x y u v c x' y' u' v' c' px py vx vy dot sz : Int) (h : Way x y u v x' y' u' v' px py vx vy dot sz) (hm : moveB x y u v c = true) (hm' : moveB x' y' u' v' c' = true) (w : World) :
    Calls Try.prog 38 #[.agg #[.int .i64 x, .int .i64 y, .int .i64 u, .int .i64 v, .int .i64 c], .agg #[.int .i64 x', .int .i64 y', .int .i64 u', .int .i64 v', .int .i64 c']] w
      (Ans w (.tuple #[.agg #[.int .i64 px, .int .i64 py], .agg #[.int .i64 vx, .int .i64 vy], .int .i64 dot, .int .i64 sz])) := by
  obtain ⟨p1, p2, p3, p4, v1, v2, v3, v4, a1, a2, b1, b2, c1, c2, d1, d2, e1, e2, f1, f2, g1, g2, h1, h2⟩ := h.bd hm hm'
  rw [moveB_iff, spotB_iff, spotB_iff] at hm hm'
  obtain ⟨⟨⟨⟨i1, i2⟩, i3, i4⟩, ⟨i5, i6⟩, i7, i8⟩, i9, i10⟩ := hm
  obtain ⟨⟨⟨⟨j1, j2⟩, j3, j4⟩, ⟨j5, j6⟩, j7, j8⟩, j9, j10⟩ := hm'
  obtain ⟨k1, k2, k3, k4, k5, k6⟩ := h
  subst k1 k2 k3 k4 k5 k6
  go_enter Try.func38, Try.ntmps38
  go_wp2
  generalize hX : (x - x') = px at *
  generalize hY : (y - y') = py at *
  generalize hU : (u - u' - px) = vx at *
  generalize hV : (v - v' - py) = vy at *
  clear hX hY hU hV
  generalize hW : World.alloc _ _ = W
  have q0 : W.cell? ⟨w.heap.size + 1 + 1 + 1 + 1, 0, none⟩ = some (.int .i64 px) := by subst hW; simp [go_sem]
  have q1 : W.cell? ⟨w.heap.size + 1 + 1 + 1 + 1, 1, none⟩ = some (.int .i64 py) := by subst hW; simp [go_sem]
  have q2 : W.cell? ⟨w.heap.size + 1 + 1 + 1 + 1 + 1, 0, none⟩ = some (.int .i64 vx) := by subst hW; simp [go_sem]
  have q3 : W.cell? ⟨w.heap.size + 1 + 1 + 1 + 1 + 1, 1, none⟩ = some (.int .i64 vy) := by subst hW; simp [go_sem]
  have q4 : W.cell? ⟨w.heap.size + 1 + 1, 0, none⟩ = some (.int .i64 0) := by subst hW; simp [go_sem]
  have f4 : W.frozen? ⟨w.heap.size + 1 + 1, 0, none⟩ = false := by subst hW; simp [go_sem]
  have q5 : W.cell? ⟨w.heap.size + 1 + 1, 1, none⟩ = some (.int .i64 0) := by subst hW; simp [go_sem]
  have f5 : W.frozen? ⟨w.heap.size + 1 + 1, 1, none⟩ = false := by subst hW; simp [go_sem]
  have q6 : W.cell? ⟨w.heap.size + 1 + 1 + 1, 0, none⟩ = some (.int .i64 0) := by subst hW; simp [go_sem]
  have f6 : W.frozen? ⟨w.heap.size + 1 + 1 + 1, 0, none⟩ = false := by subst hW; simp [go_sem]
  have q7 : W.cell? ⟨w.heap.size + 1 + 1 + 1, 1, none⟩ = some (.int .i64 0) := by subst hW; simp [go_sem]
  have f7 : W.frozen? ⟨w.heap.size + 1 + 1 + 1, 1, none⟩ = false := by subst hW; simp [go_sem]
  have hb0 : Below w.heap.size w W := by subst hW; (repeat (first | with_reducible exact Below.refl _ _ | with_reducible assumption | with_reducible refine up_alloc ?_ _ | with_reducible refine up_drew ?_ | with_reducible refine up_drewN ?_ _ | (with_reducible refine up_set ?_ ?hset _; case hset => first | (simp; done) | (simp; omega) | omega) | with_reducible refine up_trans ?_ (by with_reducible assumption)))
  clear hW
  have z0 : IntKind.i64.wrap (px * vx) = px * vx := IntWalk.i64_in _ (by omega)
  have z1 : IntKind.i64.wrap (py * vy) = py * vy := IntWalk.i64_in _ (by omega)
  have z2 : IntKind.i64.wrap (vx * vx) = vx * vx := IntWalk.i64_in _ (by omega)
  have z3 : IntKind.i64.wrap (vy * vy) = vy * vy := IntWalk.i64_in _ (by omega)
  have z4 : IntKind.i64.wrap (px * vx + py * vy) = px * vx + py * vy := IntWalk.i64_in _ (by omega)
  have z5 : IntKind.i64.wrap (vx * vx + vy * vy) = vx * vx + vy * vy := IntWalk.i64_in _ (by omega)
  go_region_held3 (fun w' => w'.cell? ⟨w.heap.size + 1 + 1 + 1 + 1, 0, none⟩ = some (.int .i64 px) ∧ w'.cell? ⟨w.heap.size + 1 + 1 + 1 + 1, 1, none⟩ = some (.int .i64 py) ∧
      w'.cell? ⟨w.heap.size + 1 + 1 + 1 + 1 + 1, 0, none⟩ = some (.int .i64 vx) ∧ w'.cell? ⟨w.heap.size + 1 + 1 + 1 + 1 + 1, 1, none⟩ = some (.int .i64 vy))
    (go_keep) (fail)
  clear z0 z1 z2 z3 z4 z5
  go_wp2
  refine bodyPost_ret (v := .tuple #[.agg #[.int .i64 px, .int .i64 py], .agg #[.int .i64 vx, .int .i64 vy], .int .i64 (px * vx + py * vy), .int .i64 (vx * vx + vy * vy)]) (by simp [results, Try.results38, go_sem, *]) rfl ?_
  exact ⟨rfl, by (repeat (first | with_reducible exact Below.refl _ _ | with_reducible assumption | with_reducible refine up_alloc ?_ _ | with_reducible refine up_drew ?_ | with_reducible refine up_drewN ?_ _ | (with_reducible refine up_set ?_ ?hset _; case hset => first | (simp; done) | (simp; omega) | omega) | with_reducible refine up_trans ?_ (by with_reducible assumption)))⟩
/-- The least square of two moves, by the way at the beginning and how it turns. -/
def ap (px py vx vy dot sz : Int) : Int × Int :=
  if 0 ≤ dot then (px * px + py * py, 1) else if sz ≤ -dot then ((px + vx) * (px + vx) + (py + vy) * (py + vy), 1)
  else (lowA ((px * vy - py * vx) * (px * vy - py * vx)) sz, lowB ((px * vy - py * vx) * (px * vy - py * vx)) sz)

theorem cross_bd {px py vx vy dot sz : Int} (h : WayBd px py vx vy dot sz) : 0 ≤ (px * vy - py * vx) * (px * vy - py * vx) ∧ (px * vy - py * vx) * (px * vy - py * vx) ≤ 11838003609600 := by
  have h1 : -3440640 ≤ px * vy - py * vx := by have := h.g1; have := h.h2; omega
  have h2 : px * vy - py * vx ≤ 3440640 := by have := h.g2; have := h.h1; omega
  have h3 := mul_bd h1 h2 h1 h2
  exact ⟨sq_nonneg _, by omega⟩

theorem Way.sq1 {x y u v x' y' u' v' px py vx vy dot sz : Int} (h : Way x y u v x' y' u' v' px py vx vy dot sz) : (px + vx) * (px + vx) + (py + vy) * (py + vy) = sq u v u' v' := by
  have h1 : px + vx = u - u' := by rw [h.k3]; omega
  have h2 : py + vy = v - v' := by rw [h.k4]; omega
  rw [h1, h2]; rfl
set_option maxRecDepth 100000 in
set_option maxHeartbeats 1000000 in
theorem leastApart_any (x y u v c x' y' u' v' c' px py vx vy dot sz : Int) (h : Way x y u v x' y' u' v' px py vx vy dot sz) (hm : moveB x y u v c = true) (hm' : moveB x' y' u' v' c' = true) (w : World) :
    Calls Try.prog 35 #[.agg #[.int .i64 x, .int .i64 y, .int .i64 u, .int .i64 v, .int .i64 c], .agg #[.int .i64 x', .int .i64 y', .int .i64 u', .int .i64 v', .int .i64 c']] w
      (Ans w (.tuple #[.int .i64 (ap px py vx vy dot sz).1, .int .i64 (ap px py vx vy dot sz).2])) := by
  have hB := h.bd hm hm'
  obtain ⟨cr1, cr2⟩ := cross_bd hB
  obtain ⟨p1, p2, p3, p4, v1, v2, v3, v4, a1, a2, b1, b2, c1, c2, d1, d2, e1, e2, f1, f2, g1, g2, h1, h2⟩ := hB
  have HQ := Lib.hid h.sq1
  have D1 : -4179968 ≤ dot ∧ dot ≤ 4179968 := by rw [h.k5]; omega
  have S1 : 0 ≤ sz ∧ sz ≤ 8359936 := by rw [h.k6]; omega
  obtain ⟨D1, D2⟩ := D1
  obtain ⟨S1, S2⟩ := S1
  have HB := Lib.hid (between_any x y u v c x' y' u' v' c' px py vx vy dot sz h hm hm')
  have hs : spotB u v = true ∧ spotB u' v' = true := ⟨(moveB_iff.1 hm).1.2, (moveB_iff.1 hm').1.2⟩
  have HS := Lib.hid (squareOf_any u v u' v' hs.1 hs.2)
  clear h hm hm' hs
  by_cases hd : 0 ≤ dot
  · have HA := Lib.hid (show (ap px py vx vy dot sz).1 = px * px + py * py ∧ (ap px py vx vy dot sz).2 = 1 by unfold ap; rw [if_pos hd]; exact ⟨rfl, rfl⟩)
    go_enter Try.func35, Try.ntmps35
    go_wp2_with (first | (go_at_call 38; refine (from0 (HB.out _) (by first | exact hb0 | exact up_alloc hb0 _ | exact up_drew hb0 | exact up_drewN hb0 _ | exact Below.refl _ _)).mono ?_; rintro e w1 ⟨rfl, hb0⟩; obtain ⟨hc0, hf0⟩ := bcell hb0))
    go_ret2
    exact Ans.int2 HA.out.1.symm HA.out.2.symm (by (repeat (first | with_reducible exact Below.refl _ _ | with_reducible assumption | with_reducible refine up_alloc ?_ _ | with_reducible refine up_drew ?_ | with_reducible refine up_drewN ?_ _ | (with_reducible refine up_set ?_ ?hset _; case hset => first | (simp; done) | (simp; omega) | omega) | with_reducible refine up_trans ?_ (by with_reducible assumption))))
  · by_cases hz : sz ≤ -dot
    · have HA := Lib.hid (show (ap px py vx vy dot sz).1 = sq u v u' v' ∧ (ap px py vx vy dot sz).2 = 1 by unfold ap; rw [if_neg hd, if_pos hz]; exact ⟨HQ.out, rfl⟩)
      go_enter Try.func35, Try.ntmps35
      go_wp2_with (first | (go_at_call 38; refine (from0 (HB.out _) (by first | exact hb0 | exact up_alloc hb0 _ | exact up_drew hb0 | exact up_drewN hb0 _ | exact Below.refl _ _)).mono ?_; rintro e w1 ⟨rfl, hb0⟩; obtain ⟨hc0, hf0⟩ := bcell hb0; have hz0 := hb0.size; simp at hz0; have hz1 : w.heap.size < w1.heap.size := (by omega); try have hz2 : w.heap.size + 1 < w1.heap.size := (by omega)) | (go_at_call 67; refine (from0 (HS.out _) (by first | exact hb0 | exact up_alloc hb0 _ | exact up_drew hb0 | exact up_drewN hb0 _ | exact Below.refl _ _)).mono ?_; rintro e w1 ⟨rfl, hb0⟩; obtain ⟨hc0, hf0⟩ := bcell hb0))
      go_ret2
      exact Ans.int2 HA.out.1.symm HA.out.2.symm (by (repeat (first | with_reducible exact Below.refl _ _ | with_reducible assumption | with_reducible refine up_alloc ?_ _ | with_reducible refine up_drew ?_ | with_reducible refine up_drewN ?_ _ | (with_reducible refine up_set ?_ ?hset _; case hset => first | (simp; done) | (simp; omega) | omega) | with_reducible refine up_trans ?_ (by with_reducible assumption))))
    · have HA := Lib.hid (show (ap px py vx vy dot sz).1 = lowA ((px * vy - py * vx) * (px * vy - py * vx)) sz ∧ (ap px py vx vy dot sz).2 = lowB ((px * vy - py * vx) * (px * vy - py * vx)) sz by unfold ap; rw [if_neg hd, if_neg hz]; exact ⟨rfl, rfl⟩)
      go_enter Try.func35, Try.ntmps35
      go_wp2_with (first | (go_at_call 38; refine (from0 (HB.out _) (by first | exact hb0 | exact up_alloc hb0 _ | exact up_drew hb0 | exact up_drewN hb0 _ | exact Below.refl _ _)).mono ?_; rintro e w1 ⟨rfl, hb0⟩; obtain ⟨hc0, hf0⟩ := bcell hb0) | (go_at_call 39; refine (from0 (lowestTerms_any _ _ cr1 (by omega) (by omega) (by omega) _) (by first | exact hb0 | exact up_alloc hb0 _ | exact up_drew hb0 | exact up_drewN hb0 _ | exact Below.refl _ _)).mono ?_; rintro e w1 ⟨rfl, hb0⟩; obtain ⟨hc0, hf0⟩ := bcell hb0))
      go_ret2
      exact Ans.int2 HA.out.1.symm HA.out.2.symm (by (repeat (first | with_reducible exact Below.refl _ _ | with_reducible assumption | with_reducible refine up_alloc ?_ _ | with_reducible refine up_drew ?_ | with_reducible refine up_drewN ?_ _ | (with_reducible refine up_set ?_ ?hset _; case hset => first | (simp; done) | (simp; omega) | omega) | with_reducible refine up_trans ?_ (by with_reducible assumption))))
end Go.Proofs.Ytljdhicmcmppgaa
