/- Words and contracts, part 3. -/
import Derived.Test.YtljdhicmcmppgaaRows
import Derived.Deep.RegionHeld3
import Derived.Test.YtljdhicmcmppgaaZ2
namespace Go.Proofs.Ytljdhicmcmppgaa
open Go.RowKit

/-- The way from one move to another one, at the beginning, and how it turns. -/
structure Way (x y u v x' y' u' v' px py vx vy dot sz : Int) : Prop where
  k1 : px = x - x'
  k2 : py = y - y'
  k3 : vx = u - u' - px
  k4 : vy = v - v' - py
  k5 : dot = px * vx + py * vy
  k6 : sz = vx * vx + vy * vy

structure WayBd (px py vx vy dot sz : Int) : Prop where
  p1 : -1280 ≤ px
  p2 : px ≤ 1280
  p3 : -672 ≤ py
  p4 : py ≤ 672
  v1 : -2560 ≤ vx
  v2 : vx ≤ 2560
  v3 : -1344 ≤ vy
  v4 : vy ≤ 1344
  a1 : -3276800 ≤ px * vx
  a2 : px * vx ≤ 3276800
  b1 : -903168 ≤ py * vy
  b2 : py * vy ≤ 903168
  c1 : 0 ≤ vx * vx
  c2 : vx * vx ≤ 6553600
  d1 : 0 ≤ vy * vy
  d2 : vy * vy ≤ 1806336
  e1 : 0 ≤ px * px
  e2 : px * px ≤ 1638400
  f1 : 0 ≤ py * py
  f2 : py * py ≤ 451584
  g1 : -1720320 ≤ px * vy
  g2 : px * vy ≤ 1720320
  h1 : -1720320 ≤ py * vx
  h2 : py * vx ≤ 1720320

theorem Way.bd {x y u v c x' y' u' v' c' px py vx vy dot sz : Int} (h : Way x y u v x' y' u' v' px py vx vy dot sz) (hm : moveB x y u v c = true) (hm' : moveB x' y' u' v' c' = true) : WayBd px py vx vy dot sz := by
  rw [moveB_iff, spotB_iff, spotB_iff] at hm hm'
  have e1 := h.k1
  have e2 := h.k2
  have e3 := h.k3
  have e4 := h.k4
  have p1 : -1280 ≤ px := by omega
  have p2 : px ≤ 1280 := by omega
  have p3 : -672 ≤ py := by omega
  have p4 : py ≤ 672 := by omega
  have v1 : -2560 ≤ vx := by omega
  have v2 : vx ≤ 2560 := by omega
  have v3 : -1344 ≤ vy := by omega
  have v4 : vy ≤ 1344 := by omega
  have a := mul_bd p1 p2 v1 v2
  have b := mul_bd p3 p4 v3 v4
  have c := mul_bd v1 v2 v1 v2
  have d := mul_bd v3 v4 v3 v4
  have e := mul_bd p1 p2 p1 p2
  have f := mul_bd p3 p4 p3 p4
  have g := mul_bd p1 p2 v3 v4
  have k := mul_bd p3 p4 v1 v2
  exact ⟨p1, p2, p3, p4, v1, v2, v3, v4, by omega, by omega, by omega, by omega, sq_nonneg _, by omega, sq_nonneg _, by omega, sq_nonneg _, by omega, sq_nonneg _, by omega, by omega, by omega, by omega, by omega⟩
set_option maxHeartbeats 400000 in
theorem between_any (x y u v c x' y' u' v' c' px py vx vy dot sz : Int) (h : Way x y u v x' y' u' v' px py vx vy dot sz) (hm : moveB x y u v c = true) (hm' : moveB x' y' u' v' c' = true) (w : World) :
    Calls Try.prog 38 #[.agg #[.int .i64 x, .int .i64 y, .int .i64 u, .int .i64 v, .int .i64 c], .agg #[.int .i64 x', .int .i64 y', .int .i64 u', .int .i64 v', .int .i64 c']] w
      (Ans w (.tuple #[.agg #[.int .i64 px, .int .i64 py], .agg #[.int .i64 vx, .int .i64 vy], .int .i64 dot, .int .i64 sz])) := by
  obtain ⟨p1, p2, p3, p4, v1, v2, v3, v4, a1, a2, b1, b2, c1, c2, d1, d2, e1, e2, f1, f2, g1, g2, h1, h2⟩ := h.bd hm hm'
  rw [moveB_iff, spotB_iff, spotB_iff] at hm hm'
  obtain ⟨⟨⟨⟨i1, i2⟩, i3, i4⟩, ⟨i5, i6⟩, i7, i8⟩, i9, i10⟩ := hm
  obtain ⟨⟨⟨⟨j1, j2⟩, j3, j4⟩, ⟨j5, j6⟩, j7, j8⟩, j9, j10⟩ := hm'
  obtain ⟨k1, k2, k3, k4, k5, k6⟩ := h
  subst k1 k2 k3 k4 k5 k6
  go_enter Try.func38, Try.ntmps38
  go_wp2
  generalize hX : (x - x') = px at *
  generalize hY : (y - y') = py at *
  generalize hU : (u - u' - px) = vx at *
  generalize hV : (v - v' - py) = vy at *
  clear hX hY hU hV
  generalize hW : World.alloc _ _ = W
  have q0 : W.cell? ⟨w.heap.size + 1 + 1 + 1 + 1, 0, none⟩ = some (.int .i64 px) := by subst hW; simp [go_sem]
  have q1 : W.cell? ⟨w.heap.size + 1 + 1 + 1 + 1, 1, none⟩ = some (.int .i64 py) := by subst hW; simp [go_sem]
  have q2 : W.cell? ⟨w.heap.size + 1 + 1 + 1 + 1 + 1, 0, none⟩ = some (.int .i64 vx) := by subst hW; simp [go_sem]
  have q3 : W.cell? ⟨w.heap.size + 1 + 1 + 1 + 1 + 1, 1, none⟩ = some (.int .i64 vy) := by subst hW; simp [go_sem]
  have q4 : W.cell? ⟨w.heap.size + 1 + 1, 0, none⟩ = some (.int .i64 0) := by subst hW; simp [go_sem]
  have f4 : W.frozen? ⟨w.heap.size + 1 + 1, 0, none⟩ = false := by subst hW; simp [go_sem]
  have q5 : W.cell? ⟨w.heap.size + 1 + 1, 1, none⟩ = some (.int .i64 0) := by subst hW; simp [go_sem]
  have f5 : W.frozen? ⟨w.heap.size + 1 + 1, 1, none⟩ = false := by subst hW; simp [go_sem]
  have q6 : W.cell? ⟨w.heap.size + 1 + 1 + 1, 0, none⟩ = some (.int .i64 0) := by subst hW; simp [go_sem]
  have f6 : W.frozen? ⟨w.heap.size + 1 + 1 + 1, 0, none⟩ = false := by subst hW; simp [go_sem]
  have q7 : W.cell? ⟨w.heap.size + 1 + 1 + 1, 1, none⟩ = some (.int .i64 0) := by subst hW; simp [go_sem]
  have f7 : W.frozen? ⟨w.heap.size + 1 + 1 + 1, 1, none⟩ = false := by subst hW; simp [go_sem]
  have hb0 : Below w.heap.size w W := by subst hW; (repeat (first | with_reducible exact Below.refl _ _ | with_reducible assumption | with_reducible refine up_alloc ?_ _ | with_reducible refine up_drew ?_ | with_reducible refine up_drewN ?_ _ | (with_reducible refine up_set ?_ ?hset _; case hset => first | (simp; done) | (simp; omega) | omega) | with_reducible refine up_trans ?_ (by with_reducible assumption)))
  clear hW
  have z0 : IntKind.i64.wrap (px * vx) = px * vx := IntWalk.i64_in _ (by omega)
  have z1 : IntKind.i64.wrap (py * vy) = py * vy := IntWalk.i64_in _ (by omega)
  have z2 : IntKind.i64.wrap (vx * vx) = vx * vx := IntWalk.i64_in _ (by omega)
  have z3 : IntKind.i64.wrap (vy * vy) = vy * vy := IntWalk.i64_in _ (by omega)
  have z4 : IntKind.i64.wrap (px * vx + py * vy) = px * vx + py * vy := IntWalk.i64_in _ (by omega)
  have z5 : IntKind.i64.wrap (vx * vx + vy * vy) = vx * vx + vy * vy := IntWalk.i64_in _ (by omega)
  go_region_held3 (fun w' => w'.cell? ⟨w.heap.size + 1 + 1 + 1 + 1, 0, none⟩ = some (.int .i64 px) ∧ w'.cell? ⟨w.heap.size + 1 + 1 + 1 + 1, 1, none⟩ = some (.int .i64 py) ∧
      w'.cell? ⟨w.heap.size + 1 + 1 + 1 + 1 + 1, 0, none⟩ = some (.int .i64 vx) ∧ w'.cell? ⟨w.heap.size + 1 + 1 + 1 + 1 + 1, 1, none⟩ = some (.int .i64 vy))
    (go_keep) (fail)
  clear z0 z1 z2 z3 z4 z5
  go_wp2
  refine bodyPost_ret (v := .tuple #[.agg #[.int .i64 px, .int .i64 py], .agg #[.int .i64 vx, .int .i64 vy], .int .i64 (px * vx + py * vy), .int .i64 (vx * vx + vy * vy)]) (by simp [results, Try.results38, go_sem, *]) rfl ?_
  exact ⟨rfl, by (repeat (first | with_reducible exact Below.refl _ _ | with_reducible assumption | with_reducible refine up_alloc ?_ _ | with_reducible refine up_drew ?_ | with_reducible refine up_drewN ?_ _ | (with_reducible refine up_set ?_ ?hset _; case hset => first | (simp; done) | (simp; omega) | omega) | with_reducible refine up_trans ?_ (by with_reducible assumption)))⟩
/-- The least square of two moves, by the way at the beginning and how it turns. -/
def ap (px py vx vy dot sz : Int) : Int × Int :=
  if 0 ≤ dot then (px * px + py * py, 1) else if sz ≤ -dot then ((px + vx) * (px + vx) + (py + vy) * (py + vy), 1)
  else (lowA ((px * vy - py * vx) * (px * vy - py * vx)) sz, lowB ((px * vy - py * vx) * (px * vy - py * vx)) sz)

theorem cross_bd {px py vx vy dot sz : Int} (h : WayBd px py vx vy dot sz) : 0 ≤ (px * vy - py * vx) * (px * vy - py * vx) ∧ (px * vy - py * vx) * (px * vy - py * vx) ≤ 11838003609600 := by
  have h1 : -3440640 ≤ px * vy - py * vx := by have := h.g1; have := h.h2; omega
  have h2 : px * vy - py * vx ≤ 3440640 := by have := h.g2; have := h.h1; omega
  have h3 := mul_bd h1 h2 h1 h2
  exact ⟨sq_nonneg _, by omega⟩

theorem Way.sq1 {x y u v x' y' u' v' px py vx vy dot sz : Int} (h : Way x y u v x' y' u' v' px py vx vy dot sz) : (px + vx) * (px + vx) + (py + vy) * (py + vy) = sq u v u' v' := by
  have h1 : px + vx = u - u' := by rw [h.k3]; omega
  have h2 : py + vy = v - v' := by rw [h.k4]; omega
  rw [h1, h2]; rfl
set_option maxRecDepth 100000 in
set_option maxHeartbeats 1000000 in
theorem leastApart_any (x y u v c x' y' u' v' c' px py vx vy dot sz : Int) (h : Way x y u v x' y' u' v' px py vx vy dot sz) (hm : moveB x y u v c = true) (hm' : moveB x' y' u' v' c' = true) (w : World) :
    Calls Try.prog 35 #[.agg #[.int .i64 x, .int .i64 y, .int .i64 u, .int .i64 v, .int .i64 c], .agg #[.int .i64 x', .int .i64 y', .int .i64 u', .int .i64 v', .int .i64 c']] w
      (Ans w (.tuple #[.int .i64 (ap px py vx vy dot sz).1, .int .i64 (ap px py vx vy dot sz).2])) := by
  have hB := h.bd hm hm'
  obtain ⟨cr1, cr2⟩ := cross_bd hB
  obtain ⟨p1, p2, p3, p4, v1, v2, v3, v4, a1, a2, b1, b2, c1, c2, d1, d2, e1, e2, f1, f2, g1, g2, h1, h2⟩ := hB
  have HQ := Lib.hid h.sq1
  have D1 : -4179968 ≤ dot ∧ dot ≤ 4179968 := by rw [h.k5]; omega
  have S1 : 0 ≤ sz ∧ sz ≤ 8359936 := by rw [h.k6]; omega
  obtain ⟨D1, D2⟩ := D1
  obtain ⟨S1, S2⟩ := S1
  have HB := Lib.hid (between_any x y u v c x' y' u' v' c' px py vx vy dot sz h hm hm')
  have hs : spotB u v = true ∧ spotB u' v' = true := ⟨(moveB_iff.1 hm).1.2, (moveB_iff.1 hm').1.2⟩
  have HS := Lib.hid (squareOf_any u v u' v' hs.1 hs.2)
  clear h hm hm' hs
  by_cases hd : 0 ≤ dot
  · have HA := Lib.hid (show (ap px py vx vy dot sz).1 = px * px + py * py ∧ (ap px py vx vy dot sz).2 = 1 by unfold ap; rw [if_pos hd]; exact ⟨rfl, rfl⟩)
    go_enter Try.func35, Try.ntmps35
    go_wp2_with (first | (go_at_call 38; refine (from0 (HB.out _) (by first | exact hb0 | exact up_alloc hb0 _ | exact up_drew hb0 | exact up_drewN hb0 _ | exact Below.refl _ _)).mono ?_; rintro e w1 ⟨rfl, hb0⟩; obtain ⟨hc0, hf0⟩ := bcell hb0))
    go_ret2
    exact Ans.int2 HA.out.1.symm HA.out.2.symm (by (repeat (first | with_reducible exact Below.refl _ _ | with_reducible assumption | with_reducible refine up_alloc ?_ _ | with_reducible refine up_drew ?_ | with_reducible refine up_drewN ?_ _ | (with_reducible refine up_set ?_ ?hset _; case hset => first | (simp; done) | (simp; omega) | omega) | with_reducible refine up_trans ?_ (by with_reducible assumption))))
  · by_cases hz : sz ≤ -dot
    · have HA := Lib.hid (show (ap px py vx vy dot sz).1 = sq u v u' v' ∧ (ap px py vx vy dot sz).2 = 1 by unfold ap; rw [if_neg hd, if_pos hz]; exact ⟨HQ.out, rfl⟩)
      go_enter Try.func35, Try.ntmps35
      go_wp2_with (first | (go_at_call 38; refine (from0 (HB.out _) (by first | exact hb0 | exact up_alloc hb0 _ | exact up_drew hb0 | exact up_drewN hb0 _ | exact Below.refl _ _)).mono ?_; rintro e w1 ⟨rfl, hb0⟩; obtain ⟨hc0, hf0⟩ := bcell hb0; have hz0 := hb0.size; simp at hz0; have hz1 : w.heap.size < w1.heap.size := (by omega); try have hz2 : w.heap.size + 1 < w1.heap.size := (by omega)) | (go_at_call 67; refine (from0 (HS.out _) (by first | exact hb0 | exact up_alloc hb0 _ | exact up_drew hb0 | exact up_drewN hb0 _ | exact Below.refl _ _)).mono ?_; rintro e w1 ⟨rfl, hb0⟩; obtain ⟨hc0, hf0⟩ := bcell hb0))
      go_ret2
      exact Ans.int2 HA.out.1.symm HA.out.2.symm (by (repeat (first | with_reducible exact Below.refl _ _ | with_reducible assumption | with_reducible refine up_alloc ?_ _ | with_reducible refine up_drew ?_ | with_reducible refine up_drewN ?_ _ | (with_reducible refine up_set ?_ ?hset _; case hset => first | (simp; done) | (simp; omega) | omega) | with_reducible refine up_trans ?_ (by with_reducible assumption))))
    · have HA := Lib.hid (show (ap px py vx vy dot sz).1 = lowA ((px * vy - py * vx) * (px * vy - py * vx)) sz ∧ (ap px py vx vy dot sz).2 = lowB ((px * vy - py * vx) * (px * vy - py * vx)) sz by unfold ap; rw [if_neg hd, if_neg hz]; exact ⟨rfl, rfl⟩)
      go_enter Try.func35, Try.ntmps35
      go_wp2_with (first | (go_at_call 38; refine (from0 (HB.out _) (by first | exact hb0 | exact up_alloc hb0 _ | exact up_drew hb0 | exact up_drewN hb0 _ | exact Below.refl _ _)).mono ?_; rintro e w1 ⟨rfl, hb0⟩; obtain ⟨hc0, hf0⟩ := bcell hb0) | (go_at_call 39; refine (from0 (lowestTerms_any _ _ cr1 (by omega) (by omega) (by omega) _) (by first | exact hb0 | exact up_alloc hb0 _ | exact up_drew hb0 | exact up_drewN hb0 _ | exact Below.refl _ _)).mono ?_; rintro e w1 ⟨rfl, hb0⟩; obtain ⟨hc0, hf0⟩ := bcell hb0))
      go_ret2
      exact Ans.int2 HA.out.1.symm HA.out.2.symm (by (repeat (first | with_reducible exact Below.refl _ _ | with_reducible assumption | with_reducible refine up_alloc ?_ _ | with_reducible refine up_drew ?_ | with_reducible refine up_drewN ?_ _ | (with_reducible refine up_set ?_ ?hset _; case hset => first | (simp; done) | (simp; omega) | omega) | with_reducible refine up_trans ?_ (by with_reducible assumption))))
end Go.Proofs.Ytljdhicmcmppgaa
namespace Go.Proofs.Ytljdhicmcmppgaa
open Go.RowKit

/-- The way at the end, too. -/
structure WayQ (u v u' v' px py vx vy qx qy : Int) : Prop where
  q1 : qx = u - u'
  q2 : qy = v - v'
  q3 : vx = qx - px
  q4 : vy = qy - py
theorem Way.q {x y u v x' y' u' v' px py vx vy dot sz : Int} (h : Way x y u v x' y' u' v' px py vx vy dot sz) : WayQ u v u' v' px py vx vy (u - u') (v - v') := ⟨rfl, rfl, h.k3, h.k4⟩

theorem ap_eq {px py vx vy dot sz qx qy : Int} (h5 : dot = px * vx + py * vy) (h6 : sz = vx * vx + vy * vy) (q3 : vx = qx - px) (q4 : vy = qy - py) :
    ap px py vx vy dot sz = if 0 < -dot ∧ -dot < sz then (lowA ((px * qy - py * qx) * (px * qy - py * qx)) sz, lowB ((px * qy - py * qx) * (px * qy - py * qx)) sz) else (min (px * px + py * py) (qx * qx + qy * qy), 1) := by
  have hq : qx * qx + qy * qy = px * px + py * py + 2 * dot + sz := by subst h5 h6 q3 q4; grind
  have hc : px * vy - py * vx = px * qy - py * qx := by subst q3 q4; grind
  have hs : 0 ≤ sz := by rw [h6]; have := sq_nonneg vx; have := sq_nonneg vy; omega
  have e1 : px + vx = qx := by omega
  have e2 : py + vy = qy := by omega
  unfold ap
  rw [hc, e1, e2]
  by_cases hd : 0 ≤ dot
  · rw [if_pos hd, if_neg (by omega), show min (px * px + py * py) (qx * qx + qy * qy) = px * px + py * py by omega]
  · rw [if_neg hd]
    by_cases hz : sz ≤ -dot
    · rw [if_pos hz, if_neg (by omega), show min (px * px + py * py) (qx * qx + qy * qy) = qx * qx + qy * qy by omega]
    · rw [if_neg hz, if_pos (by omega)]

set_option maxHeartbeats 1000000 in
theorem apEnds_any (x y u v c x' y' u' v' c' px py vx vy dot sz qx qy : Int) (h : Way x y u v x' y' u' v' px py vx vy dot sz) (hq : WayQ u v u' v' px py vx vy qx qy) (hm : moveB x y u v c = true) (hm' : moveB x' y' u' v' c' = true) (w : World) :
    Calls Try.prog 42 #[.agg #[.int .i64 x, .int .i64 y, .int .i64 u, .int .i64 v, .int .i64 c], .agg #[.int .i64 x', .int .i64 y', .int .i64 u', .int .i64 v', .int .i64 c']] w
      (Ans w (.tuple #[.int .i64 px, .int .i64 py, .int .i64 qx, .int .i64 qy])) := by
  rw [moveB_iff, spotB_iff, spotB_iff] at hm hm'
  obtain ⟨⟨⟨⟨i1, i2⟩, i3, i4⟩, ⟨i5, i6⟩, i7, i8⟩, i9, i10⟩ := hm
  obtain ⟨⟨⟨⟨j1, j2⟩, j3, j4⟩, ⟨j5, j6⟩, j7, j8⟩, j9, j10⟩ := hm'
  have HX := Lib.hid h.k1
  have HY := Lib.hid h.k2
  have HU := Lib.hid hq.q1
  have HV := Lib.hid hq.q2
  clear h hq
  have z0 : IntKind.i64.wrap (x - x') = x - x' := IntWalk.i64_in _ (by omega)
  have z1 : IntKind.i64.wrap (y - y') = y - y' := IntWalk.i64_in _ (by omega)
  have z2 : IntKind.i64.wrap (u - u') = u - u' := IntWalk.i64_in _ (by omega)
  have z3 : IntKind.i64.wrap (v - v') = v - v' := IntWalk.i64_in _ (by omega)
  go_enter Try.func42, Try.ntmps42
  go_wp2
  go_quiet (fail)
  go_wp2
  refine bodyPost_ret (v := .tuple #[.int .i64 (x - x'), .int .i64 (y - y'), .int .i64 (u - u'), .int .i64 (v - v')]) (by simp [results, Try.results42, go_sem, *]) rfl ?_
  rw [HX.out, HY.out, HU.out, HV.out]
  exact ⟨rfl, by (repeat (first | with_reducible exact Below.refl _ _ | with_reducible assumption | with_reducible refine up_alloc ?_ _ | with_reducible refine up_drew ?_ | with_reducible refine up_drewN ?_ _ | (with_reducible refine up_set ?_ ?hset _; case hset => first | (simp; done) | (simp; omega) | omega) | with_reducible refine up_trans ?_ (by with_reducible assumption)))⟩
def inN (dot sz : Int) : Int := if 0 < -dot ∧ -dot < sz then -dot else 0
def inD (dot sz : Int) : Int := if 0 < -dot ∧ -dot < sz then sz else 0
set_option maxHeartbeats 1000000 in
theorem apInner_any (x y u v c x' y' u' v' c' px py vx vy dot sz qx qy : Int) (h : Way x y u v x' y' u' v' px py vx vy dot sz) (hq : WayQ u v u' v' px py vx vy qx qy) (hm : moveB x y u v c = true) (hm' : moveB x' y' u' v' c' = true) (w : World) :
    Calls Try.prog 40 #[.agg #[.int .i64 x, .int .i64 y, .int .i64 u, .int .i64 v, .int .i64 c], .agg #[.int .i64 x', .int .i64 y', .int .i64 u', .int .i64 v', .int .i64 c']] w
      (Ans w (.tuple #[.int .i64 (inN dot sz), .int .i64 (inD dot sz)])) := by
  have HE := Lib.hid (apEnds_any x y u v c x' y' u' v' c' px py vx vy dot sz qx qy h hq hm hm')
  obtain ⟨p1, p2, p3, p4, v1, v2, v3, v4, a1, a2, b1, b2, c1, c2, d1, d2, e1, e2, f1, f2, g1, g2, h1, h2⟩ := h.bd hm hm'
  obtain ⟨k1, k2, k3, k4, k5, k6⟩ := h
  obtain ⟨q1, q2, q3, q4⟩ := hq
  clear k1 k2 k3 k4 q1 q2
  subst q3 q4
  have HA := Lib.hid (show (inN dot sz = if 0 < -dot ∧ -dot < sz then -dot else 0) ∧ (inD dot sz = if 0 < -dot ∧ -dot < sz then sz else 0) from ⟨rfl, rfl⟩)
  subst k5 k6
  go_enter Try.func40, Try.ntmps40
  go_wp2_with (first | (go_at_call 42; refine (from0 (HE.out _) (by first | exact hb0 | exact up_alloc hb0 _ | exact up_drew hb0 | exact up_drewN hb0 _ | exact Below.refl _ _)).mono ?_; rintro e w1 ⟨rfl, hb0⟩; obtain ⟨hc0, hf0⟩ := bcell hb0))
  all_goals
    go_ret2
    exact Ans.int2 (by rw [HA.out.1]; split <;> omega) (by rw [HA.out.2]; split <;> omega) (by (repeat (first | with_reducible exact Below.refl _ _ | with_reducible assumption | with_reducible refine up_alloc ?_ _ | with_reducible refine up_drew ?_ | with_reducible refine up_drewN ?_ _ | (with_reducible refine up_set ?_ ?hset _; case hset => first | (simp; done) | (simp; omega) | omega) | with_reducible refine up_trans ?_ (by with_reducible assumption))))
set_option maxHeartbeats 1000000 in
theorem apLeast_any (x y u v c x' y' u' v' c' px py vx vy dot sz : Int) (h : Way x y u v x' y' u' v' px py vx vy dot sz) (hm : moveB x y u v c = true) (hm' : moveB x' y' u' v' c' = true) (w : World) :
    Calls Try.prog 37 #[.agg #[.int .i64 x, .int .i64 y, .int .i64 u, .int .i64 v, .int .i64 c], .agg #[.int .i64 x', .int .i64 y', .int .i64 u', .int .i64 v', .int .i64 c']] w
      (Ans w (.tuple #[.int .i64 (ap px py vx vy dot sz).1, .int .i64 (ap px py vx vy dot sz).2])) := by
  obtain ⟨qx, qy, hq⟩ : ∃ qx qy, WayQ u v u' v' px py vx vy qx qy := ⟨_, _, h.q⟩
  have HE := Lib.hid (apEnds_any x y u v c x' y' u' v' c' px py vx vy dot sz qx qy h hq hm hm')
  have HI := Lib.hid (apInner_any x y u v c x' y' u' v' c' px py vx vy dot sz qx qy h hq hm hm')
  have hB := h.bd hm hm'
  have hc : px * vy - py * vx = px * qy - py * qx := by rw [hq.q3, hq.q4]; grind
  have hcb := cross_bd hB
  rw [hc] at hcb
  obtain ⟨cr1, cr2⟩ := hcb
  have cc : -3440640 ≤ px * qy - py * qx ∧ px * qy - py * qx ≤ 3440640 := by rw [← hc]; have := hB.g1; have := hB.g2; have := hB.h1; have := hB.h2; omega
  obtain ⟨cc1, cc2⟩ := cc
  have A1 := ap_eq h.k5 h.k6 hq.q3 hq.q4
  obtain ⟨p1, p2, p3, p4, v1, v2, v3, v4, a1, a2, b1, b2, c1, c2, d1, d2, e1, e2, f1, f2, g1, g2, h1, h2⟩ := hB
  rw [moveB_iff, spotB_iff, spotB_iff] at hm hm'
  have r1 : -1280 ≤ qx := by rw [hq.q1]; omega
  have r2 : qx ≤ 1280 := by rw [hq.q1]; omega
  have r3 : -672 ≤ qy := by rw [hq.q2]; omega
  have r4 : qy ≤ 672 := by rw [hq.q2]; omega
  obtain ⟨s1, s2⟩ := mul_bd p1 p2 r3 r4
  obtain ⟨s3, s4⟩ := mul_bd p3 p4 r1 r2
  obtain ⟨s5, s6⟩ := mul_bd r1 r2 r1 r2
  obtain ⟨s7, s8⟩ := mul_bd r3 r4 r3 r4
  have D1 : -4179968 ≤ dot ∧ dot ≤ 4179968 := by rw [h.k5]; omega
  have S1 : 0 ≤ sz ∧ sz ≤ 8359936 := by rw [h.k6]; omega
  obtain ⟨D1, D2⟩ := D1
  obtain ⟨S1, S2⟩ := S1
  clear h hq hm hm' hc
  by_cases hi : 0 < -dot ∧ -dot < sz
  · rw [if_pos hi] at A1
    have HA := Lib.hid A1
    have hD : inD dot sz = sz := if_pos hi
    have hN : inN dot sz = -dot := if_pos hi
    rw [hD, hN] at HI
    obtain ⟨hi1, hi2⟩ := hi
    have hs : 0 < sz := by omega
    clear A1 hD hN
    go_enter Try.func37, Try.ntmps37
    go_wp2_with (first | (go_at_call 42; refine (from0 (HE.out _) (by first | exact hb0 | exact up_alloc hb0 _ | exact up_drew hb0 | exact up_drewN hb0 _ | exact Below.refl _ _)).mono ?_; rintro e w1 ⟨rfl, hb0⟩; obtain ⟨hc0, hf0⟩ := bcell hb0) | (go_at_call 40; refine (from0 (HI.out _) (by first | exact hb0 | exact up_alloc hb0 _ | exact up_drew hb0 | exact up_drewN hb0 _ | exact Below.refl _ _)).mono ?_; rintro e w1 ⟨rfl, hb0⟩; obtain ⟨hc0, hf0⟩ := bcell hb0) | (go_at_call 41; refine (from0 (mvPart_any _ _ cr1 (by omega) hs (by omega) _) (by first | exact hb0 | exact up_alloc hb0 _ | exact up_drew hb0 | exact up_drewN hb0 _ | exact Below.refl _ _)).mono ?_; rintro e w1 ⟨rfl, hb0⟩; obtain ⟨hc0, hf0⟩ := bcell hb0))
    go_ret2
    exact Ans.int2 (by rw [HA.out]) (by rw [HA.out]) (by (repeat (first | with_reducible exact Below.refl _ _ | with_reducible assumption | with_reducible refine up_alloc ?_ _ | with_reducible refine up_drew ?_ | with_reducible refine up_drewN ?_ _ | (with_reducible refine up_set ?_ ?hset _; case hset => first | (simp; done) | (simp; omega) | omega) | with_reducible refine up_trans ?_ (by with_reducible assumption))))
  · rw [if_neg hi] at A1
    have HA := Lib.hid A1
    have hD : inD dot sz = 0 := if_neg hi
    have hN : inN dot sz = 0 := if_neg hi
    rw [hD, hN] at HI
    clear A1 hD hN
    go_enter Try.func37, Try.ntmps37
    go_wp2_with (first | (go_at_call 42; refine (from0 (HE.out _) (by first | exact hb0 | exact up_alloc hb0 _ | exact up_drew hb0 | exact up_drewN hb0 _ | exact Below.refl _ _)).mono ?_; rintro e w1 ⟨rfl, hb0⟩; obtain ⟨hc0, hf0⟩ := bcell hb0) | (go_at_call 40; refine (from0 (HI.out _) (by first | exact hb0 | exact up_alloc hb0 _ | exact up_drew hb0 | exact up_drewN hb0 _ | exact Below.refl _ _)).mono ?_; rintro e w1 ⟨rfl, hb0⟩; obtain ⟨hc0, hf0⟩ := bcell hb0) | (go_at_call 69; refine (l1Least_any _ _ _).mono ?_; rintro e w1 ⟨rfl, rfl⟩))
    go_ret2
    exact Ans.int2 (by rw [HA.out]) (by rw [HA.out]) (by (repeat (first | with_reducible exact Below.refl _ _ | with_reducible assumption | with_reducible refine up_alloc ?_ _ | with_reducible refine up_drew ?_ | with_reducible refine up_drewN ?_ _ | (with_reducible refine up_set ?_ ?hset _; case hset => first | (simp; done) | (simp; omega) | omega) | with_reducible refine up_trans ?_ (by with_reducible assumption))))
/-- What both sides' LeastApart hands back. -/
def lapV (x y u v c x' y' u' v' c' : Int) : Value :=
  if togB x y u v c x' y' u' v' c' then
    .tuple #[.int .i64 (ap (x - x') (y - y') (u - u' - (x - x')) (v - v' - (y - y')) ((x - x') * (u - u' - (x - x')) + (y - y') * (v - v' - (y - y'))) ((u - u' - (x - x')) * (u - u' - (x - x')) + (v - v' - (y - y')) * (v - v' - (y - y')))).1,
      .int .i64 (ap (x - x') (y - y') (u - u' - (x - x')) (v - v' - (y - y')) ((x - x') * (u - u' - (x - x')) + (y - y') * (v - v' - (y - y'))) ((u - u' - (x - x')) * (u - u' - (x - x')) + (v - v' - (y - y')) * (v - v' - (y - y')))).2, .bool true]
  else .tuple #[.int .i64 0, .int .i64 0, .bool false]
theorem Way.mk' (x y u v x' y' u' v' : Int) : Way x y u v x' y' u' v' (x - x') (y - y') (u - u' - (x - x')) (v - v' - (y - y')) ((x - x') * (u - u' - (x - x')) + (y - y') * (v - v' - (y - y'))) ((u - u' - (x - x')) * (u - u' - (x - x')) + (v - v' - (y - y')) * (v - v' - (y - y'))) := ⟨rfl, rfl, rfl, rfl, rfl, rfl⟩
set_option maxHeartbeats 1000000 in
theorem iLeastApart_any (x y u v c x' y' u' v' c' : Int) (w : World) :
    Calls Try.prog 6 #[.agg #[.int .i64 x, .int .i64 y, .int .i64 u, .int .i64 v, .int .i64 c], .agg #[.int .i64 x', .int .i64 y', .int .i64 u', .int .i64 v', .int .i64 c']] w
      (Ans w (lapV x y u v c x' y' u' v' c')) := by
  have HT := Lib.hid (goTogether_any x y u v c x' y' u' v' c')
  by_cases ht : togB x y u v c x' y' u' v' c' = true
  · have HV := Lib.hid (show lapV x y u v c x' y' u' v' c' = _ from if_pos ht)
    have hm := togB_iff.1 ht
    have HL := Lib.hid (leastApart_any x y u v c x' y' u' v' c' _ _ _ _ _ _ (Way.mk' x y u v x' y' u' v') hm.1.1 hm.1.2)
    rw [ht] at HT
    generalize ap _ _ _ _ _ _ = r at *
    clear hm ht
    go_enter Try.func6, Try.ntmps6
    go_wp2_with (first | (go_at_call 34; refine (from0 (HT.out _) (by first | exact hb0 | exact up_alloc hb0 _ | exact up_drew hb0 | exact up_drewN hb0 _ | exact Below.refl _ _)).mono ?_; rintro e w1 ⟨rfl, hb0⟩; obtain ⟨hc0, hf0⟩ := bcell hb0; have hz0 := hb0.size; simp at hz0; have hz1 : w.heap.size < w1.heap.size := (by omega); try have hz2 : w.heap.size + 1 < w1.heap.size := (by omega)) | (go_at_call 35; refine (from0 (HL.out _) (by first | exact hb0 | exact up_alloc hb0 _ | exact up_drew hb0 | exact up_drewN hb0 _ | exact Below.refl _ _)).mono ?_; rintro e w1 ⟨rfl, hb0⟩; obtain ⟨hc0, hf0⟩ := bcell hb0))
    go_ret3
    rw [HV.out]
    exact ⟨rfl, by (repeat (first | with_reducible exact Below.refl _ _ | with_reducible assumption | with_reducible refine up_alloc ?_ _ | with_reducible refine up_drew ?_ | with_reducible refine up_drewN ?_ _ | (with_reducible refine up_set ?_ ?hset _; case hset => first | (simp; done) | (simp; omega) | omega) | with_reducible refine up_trans ?_ (by with_reducible assumption)))⟩
  · have HV := Lib.hid (show lapV x y u v c x' y' u' v' c' = _ from if_neg ht)
    rw [Bool.not_eq_true] at ht
    rw [ht] at HT
    clear ht
    go_enter Try.func6, Try.ntmps6
    go_wp2_with (first | (go_at_call 34; refine (from0 (HT.out _) (by first | exact hb0 | exact up_alloc hb0 _ | exact up_drew hb0 | exact up_drewN hb0 _ | exact Below.refl _ _)).mono ?_; rintro e w1 ⟨rfl, hb0⟩; obtain ⟨hc0, hf0⟩ := bcell hb0; have hz0 := hb0.size; simp at hz0; have hz1 : w.heap.size < w1.heap.size := (by omega); try have hz2 : w.heap.size + 1 < w1.heap.size := (by omega)))
    go_ret3
    rw [HV.out]
    exact ⟨rfl, by (repeat (first | with_reducible exact Below.refl _ _ | with_reducible assumption | with_reducible refine up_alloc ?_ _ | with_reducible refine up_drew ?_ | with_reducible refine up_drewN ?_ _ | (with_reducible refine up_set ?_ ?hset _; case hset => first | (simp; done) | (simp; omega) | omega) | with_reducible refine up_trans ?_ (by with_reducible assumption)))⟩
set_option maxHeartbeats 1000000 in
theorem sLeastApart_any (x y u v c x' y' u' v' c' : Int) (w : World) :
    Calls Try.prog 7 #[.agg #[.int .i64 x, .int .i64 y, .int .i64 u, .int .i64 v, .int .i64 c], .agg #[.int .i64 x', .int .i64 y', .int .i64 u', .int .i64 v', .int .i64 c']] w
      (Ans w (lapV x y u v c x' y' u' v' c')) := by
  have HT := Lib.hid (apGood_any x y u v c x' y' u' v' c')
  by_cases ht : togB x y u v c x' y' u' v' c' = true
  · have HV := Lib.hid (show lapV x y u v c x' y' u' v' c' = _ from if_pos ht)
    have hm := togB_iff.1 ht
    have HL := Lib.hid (apLeast_any x y u v c x' y' u' v' c' _ _ _ _ _ _ (Way.mk' x y u v x' y' u' v') hm.1.1 hm.1.2)
    rw [ht] at HT
    generalize ap _ _ _ _ _ _ = r at *
    clear hm ht
    go_enter Try.func7, Try.ntmps7
    go_wp2_with (first | (go_at_call 36; refine (from0 (HT.out _) (by first | exact hb0 | exact up_alloc hb0 _ | exact up_drew hb0 | exact up_drewN hb0 _ | exact Below.refl _ _)).mono ?_; rintro e w1 ⟨rfl, hb0⟩; obtain ⟨hc0, hf0⟩ := bcell hb0; have hz0 := hb0.size; simp at hz0; have hz1 : w.heap.size < w1.heap.size := (by omega); try have hz2 : w.heap.size + 1 < w1.heap.size := (by omega)) | (go_at_call 37; refine (from0 (HL.out _) (by first | exact hb0 | exact up_alloc hb0 _ | exact up_drew hb0 | exact up_drewN hb0 _ | exact Below.refl _ _)).mono ?_; rintro e w1 ⟨rfl, hb0⟩; obtain ⟨hc0, hf0⟩ := bcell hb0))
    go_ret3
    rw [HV.out]
    exact ⟨rfl, by (repeat (first | with_reducible exact Below.refl _ _ | with_reducible assumption | with_reducible refine up_alloc ?_ _ | with_reducible refine up_drew ?_ | with_reducible refine up_drewN ?_ _ | (with_reducible refine up_set ?_ ?hset _; case hset => first | (simp; done) | (simp; omega) | omega) | with_reducible refine up_trans ?_ (by with_reducible assumption)))⟩
  · have HV := Lib.hid (show lapV x y u v c x' y' u' v' c' = _ from if_neg ht)
    rw [Bool.not_eq_true] at ht
    rw [ht] at HT
    clear ht
    go_enter Try.func7, Try.ntmps7
    go_wp2_with (first | (go_at_call 36; refine (from0 (HT.out _) (by first | exact hb0 | exact up_alloc hb0 _ | exact up_drew hb0 | exact up_drewN hb0 _ | exact Below.refl _ _)).mono ?_; rintro e w1 ⟨rfl, hb0⟩; obtain ⟨hc0, hf0⟩ := bcell hb0; have hz0 := hb0.size; simp at hz0; have hz1 : w.heap.size < w1.heap.size := (by omega); try have hz2 : w.heap.size + 1 < w1.heap.size := (by omega)))
    go_ret3
    rw [HV.out]
    exact ⟨rfl, by (repeat (first | with_reducible exact Below.refl _ _ | with_reducible assumption | with_reducible refine up_alloc ?_ _ | with_reducible refine up_drew ?_ | with_reducible refine up_drewN ?_ _ | (with_reducible refine up_set ?_ ?hset _; case hset => first | (simp; done) | (simp; omega) | omega) | with_reducible refine up_trans ?_ (by with_reducible assumption)))⟩
end Go.Proofs.Ytljdhicmcmppgaa
namespace Go.Proofs.Ytljdhicmcmppgaa
open Go.RowKit Go.Sort

/-- c times a coordinate after s of c counts. -/
def pAt (x u c s : Int) : Int := x * c + s * (u - x)
theorem pAt_bd {x u c s K : Int} (hx : 0 ≤ x) (hx' : x ≤ K) (hu : 0 ≤ u) (hu' : u ≤ K) (hc : 1 ≤ c) (hc' : c ≤ 64) (hs : 0 ≤ s) (hs' : s ≤ c) :
    (-(K * 64) ≤ x * c ∧ x * c ≤ K * 64) ∧ (-(64 * K) ≤ s * (u - x) ∧ s * (u - x) ≤ 64 * K) :=
  ⟨mul_bd (by omega) hx' (by omega) hc', mul_bd (by omega) (by omega) (by omega) (by omega)⟩
set_option maxHeartbeats 2000000 in
theorem placeAt_any (x y u v c s : Int) (h : moveB x y u v c = true) (hs : 0 ≤ s) (hs' : s ≤ c) (w : World) :
    Calls Try.prog 48 #[.agg #[.int .i64 x, .int .i64 y, .int .i64 u, .int .i64 v, .int .i64 c], .int .i64 s] w (Ans w (.tuple #[.int .i64 (pAt x u c s), .int .i64 (pAt y v c s)])) := by
  obtain ⟨⟨h1, h2⟩, h3, h4⟩ := moveB_iff.1 h
  obtain ⟨⟨a1, a2⟩, a3, a4⟩ := spotB_iff.1 h1
  obtain ⟨⟨b1, b2⟩, b3, b4⟩ := spotB_iff.1 h2
  obtain ⟨⟨c1, c2⟩, c3, c4⟩ := pAt_bd (K := 1280) a1 a2 b1 b2 h3 h4 hs hs'
  obtain ⟨⟨d1, d2⟩, d3, d4⟩ := pAt_bd (K := 672) a3 a4 b3 b4 h3 h4 hs hs'
  have H := Lib.hid (show pAt x u c s = x * c + s * (u - x) ∧ pAt y v c s = y * c + s * (v - y) from ⟨rfl, rfl⟩)
  clear h h1 h2
  go_enter Try.func48, Try.ntmps48
  go_wp2
  generalize hW : World.alloc _ _ = W
  have hb : Below w.heap.size w W := by subst hW; (repeat (first | with_reducible exact Below.refl _ _ | with_reducible assumption | with_reducible refine up_alloc ?_ _ | with_reducible refine up_drew ?_ | with_reducible refine up_drewN ?_ _ | (with_reducible refine up_set ?_ ?hset _; case hset => first | (simp; done) | (simp; omega) | omega) | with_reducible refine up_trans ?_ (by with_reducible assumption)))
  have q0 := cell_regrown (show W.cell? ⟨w.heap.size, 0, none⟩ = some (.int .i64 x) by subst hW; simp [go_sem])
  have q1 := cell_regrown (show W.cell? ⟨w.heap.size, 1, none⟩ = some (.int .i64 y) by subst hW; simp [go_sem])
  have q2 := cell_regrown (show W.cell? ⟨w.heap.size, 2, none⟩ = some (.int .i64 u) by subst hW; simp [go_sem])
  have q3 := cell_regrown (show W.cell? ⟨w.heap.size, 3, none⟩ = some (.int .i64 v) by subst hW; simp [go_sem])
  have q4 := cell_regrown (show W.cell? ⟨w.heap.size, 4, none⟩ = some (.int .i64 c) by subst hW; simp [go_sem])
  clear hW
  refine wp_region_up (by kernel_rfl) (by kernel_rfl) ?_
  repeat (go_big_quiet_step (fail))
  refine wpQuiet_nil ?_
  intro w1 hb0
  obtain ⟨hc0, hf0⟩ := bcell hb0
  go_wp2
  go_ret2
  exact Ans.int2 (by rw [H.out.1]) (by rw [H.out.2]) (up_trans hb hb0)
set_option maxHeartbeats 2000000 in
theorem mvAt_any (x y u v c s : Int) (h : moveB x y u v c = true) (hs : 0 ≤ s) (hs' : s ≤ c) (w : World) :
    Calls Try.prog 53 #[.agg #[.int .i64 x, .int .i64 y, .int .i64 u, .int .i64 v, .int .i64 c], .int .i64 s] w (Ans w (.tuple #[.int .i64 (pAt x u c s), .int .i64 (pAt y v c s)])) := by
  obtain ⟨⟨h1, h2⟩, h3, h4⟩ := moveB_iff.1 h
  obtain ⟨⟨a1, a2⟩, a3, a4⟩ := spotB_iff.1 h1
  obtain ⟨⟨b1, b2⟩, b3, b4⟩ := spotB_iff.1 h2
  obtain ⟨⟨c1, c2⟩, c3, c4⟩ := pAt_bd (K := 1280) a1 a2 b1 b2 h3 h4 hs hs'
  obtain ⟨⟨d1, d2⟩, d3, d4⟩ := pAt_bd (K := 672) a3 a4 b3 b4 h3 h4 hs hs'
  rw [Int.mul_comm s (u - x)] at c3 c4; rw [Int.mul_comm s (v - y)] at d3 d4
  have H := Lib.hid (show pAt x u c s = x * c + (u - x) * s ∧ pAt y v c s = y * c + (v - y) * s from ⟨by unfold pAt; rw [Int.mul_comm s], by unfold pAt; rw [Int.mul_comm s]⟩)
  clear h h1 h2
  go_enter Try.func53, Try.ntmps53
  go_wp2
  generalize hW : World.alloc _ _ = W
  have hb : Below w.heap.size w W := by subst hW; (repeat (first | with_reducible exact Below.refl _ _ | with_reducible assumption | with_reducible refine up_alloc ?_ _ | with_reducible refine up_drew ?_ | with_reducible refine up_drewN ?_ _ | (with_reducible refine up_set ?_ ?hset _; case hset => first | (simp; done) | (simp; omega) | omega) | with_reducible refine up_trans ?_ (by with_reducible assumption)))
  have q0 := cell_regrown (show W.cell? ⟨w.heap.size, 0, none⟩ = some (.int .i64 x) by subst hW; simp [go_sem])
  have q1 := cell_regrown (show W.cell? ⟨w.heap.size, 1, none⟩ = some (.int .i64 y) by subst hW; simp [go_sem])
  have q2 := cell_regrown (show W.cell? ⟨w.heap.size, 2, none⟩ = some (.int .i64 u) by subst hW; simp [go_sem])
  have q3 := cell_regrown (show W.cell? ⟨w.heap.size, 3, none⟩ = some (.int .i64 v) by subst hW; simp [go_sem])
  have q4 := cell_regrown (show W.cell? ⟨w.heap.size, 4, none⟩ = some (.int .i64 c) by subst hW; simp [go_sem])
  clear hW
  refine wp_region_up (by kernel_rfl) (by kernel_rfl) ?_
  repeat (go_big_quiet_step (fail))
  refine wpQuiet_nil ?_
  intro w1 hb0
  obtain ⟨hc0, hf0⟩ := bcell hb0
  go_wp2
  go_ret2
  exact Ans.int2 (by rw [H.out.1]) (by rw [H.out.2]) (up_trans hb hb0)
end Go.Proofs.Ytljdhicmcmppgaa
namespace Go.Proofs.Ytljdhicmcmppgaa
open Go.RowKit Go.Sort

/-- c² times the square between two moves after s of c counts. -/
def sqm (x y u v x' y' u' v' c s : Int) : Int := (pAt x u c s - pAt x' u' c s) * (pAt x u c s - pAt x' u' c s) + (pAt y v c s - pAt y' v' c s) * (pAt y v c s - pAt y' v' c s)
theorem pAt_in {x u c s K : Int} (hx : 0 ≤ x) (hx' : x ≤ K) (hu : 0 ≤ u) (hu' : u ≤ K) (hc : 1 ≤ c) (hc' : c ≤ 64) (hs : 0 ≤ s) (hs' : s ≤ c) : -(128 * K) ≤ pAt x u c s ∧ pAt x u c s ≤ 128 * K := by
  obtain ⟨h1, h2⟩ := pAt_bd hx hx' hu hu' hc hc' hs hs'
  unfold pAt
  omega
theorem sqm_bd {x y u v x' y' u' v' c s : Int} (h : moveB x y u v c = true) (h' : moveB x' y' u' v' c = true) (hs : 0 ≤ s) (hs' : s ≤ c) :
    (-327680 ≤ pAt x u c s - pAt x' u' c s ∧ pAt x u c s - pAt x' u' c s ≤ 327680) ∧ (-327680 ≤ pAt y v c s - pAt y' v' c s ∧ pAt y v c s - pAt y' v' c s ≤ 327680) ∧
    (0 ≤ (pAt x u c s - pAt x' u' c s) * (pAt x u c s - pAt x' u' c s) ∧ (pAt x u c s - pAt x' u' c s) * (pAt x u c s - pAt x' u' c s) ≤ 107374182400) ∧
    (0 ≤ (pAt y v c s - pAt y' v' c s) * (pAt y v c s - pAt y' v' c s) ∧ (pAt y v c s - pAt y' v' c s) * (pAt y v c s - pAt y' v' c s) ≤ 107374182400) ∧ (1 ≤ c * c ∧ c * c ≤ 4096) := by
  obtain ⟨⟨h1, h2⟩, h3, h4⟩ := moveB_iff.1 h
  obtain ⟨⟨a1, a2⟩, a3, a4⟩ := spotB_iff.1 h1
  obtain ⟨⟨b1, b2⟩, b3, b4⟩ := spotB_iff.1 h2
  obtain ⟨⟨h1', h2'⟩, _, _⟩ := moveB_iff.1 h'
  obtain ⟨⟨c1, c2⟩, c3, c4⟩ := spotB_iff.1 h1'
  obtain ⟨⟨d1, d2⟩, d3, d4⟩ := spotB_iff.1 h2'
  have e1 := pAt_in (K := 1280) a1 a2 b1 b2 h3 h4 hs hs'
  have e2 := pAt_in (K := 1280) a3 (by omega) b3 (by omega) h3 h4 hs hs'
  have e3 := pAt_in (K := 1280) c1 c2 d1 d2 h3 h4 hs hs'
  have e4 := pAt_in (K := 1280) c3 (by omega) d3 (by omega) h3 h4 hs hs'
  have f1 := mul_bd (a := pAt x u c s - pAt x' u' c s) (b := pAt x u c s - pAt x' u' c s) (A := 327680) (B := 327680) (by omega) (by omega) (by omega) (by omega)
  have f2 := mul_bd (a := pAt y v c s - pAt y' v' c s) (b := pAt y v c s - pAt y' v' c s) (A := 327680) (B := 327680) (by omega) (by omega) (by omega) (by omega)
  have f3 := mul_bd (a := c) (b := c) (A := 64) (B := 64) (by omega) (by omega) (by omega) (by omega)
  have f4 := Int.mul_le_mul (show 1 ≤ c from h3) (show 1 ≤ c from h3) (by omega) (by omega)
  exact ⟨by omega, by omega, ⟨sq_nonneg _, by omega⟩, ⟨sq_nonneg _, by omega⟩, by omega, by omega⟩
set_option maxHeartbeats 2000000 in
theorem apartAt_any (x y u v x' y' u' v' c s : Int) (h : moveB x y u v c = true) (h' : moveB x' y' u' v' c = true) (hs : 0 ≤ s) (hs' : s ≤ c) (w : World) :
    Calls Try.prog 17 #[.agg #[.int .i64 x, .int .i64 y, .int .i64 u, .int .i64 v, .int .i64 c], .agg #[.int .i64 x', .int .i64 y', .int .i64 u', .int .i64 v', .int .i64 c], .int .i64 s] w
      (Ans w (.tuple #[.int .i64 (lowA (sqm x y u v x' y' u' v' c s) (c * c)), .int .i64 (lowB (sqm x y u v x' y' u' v' c s) (c * c)), .bool true])) := by
  have HT := Lib.hid (apGood_any x y u v c x' y' u' v' c)
  rw [togB_iff.2 ⟨⟨h, h'⟩, rfl⟩] at HT
  have hin : inB s 0 c = true := inB_iff.2 ⟨hs, hs'⟩
  have HB := sqm_bd h h' hs hs'
  obtain ⟨⟨b1, b2⟩, ⟨b3, b4⟩, ⟨b5, b6⟩, ⟨b7, b8⟩, b9, b10⟩ := HB
  have H := Lib.hid (show sqm x y u v x' y' u' v' c s = (pAt x u c s - pAt x' u' c s) * (pAt x u c s - pAt x' u' c s) + (pAt y v c s - pAt y' v' c s) * (pAt y v c s - pAt y' v' c s) from rfl)
  go_enter Try.func17, Try.ntmps17
  go_wp2_with (first | (go_at_call 36; refine (from0 (HT.out _) (by first | exact hb0 | exact up_alloc hb0 _ | exact up_drew hb0 | exact up_drewN hb0 _ | exact Below.refl _ _)).mono ?_; rintro e w1 ⟨rfl, hb0⟩; obtain ⟨hc0, hf0⟩ := bcell hb0; have hz0 := hb0.size; simp at hz0; have hz1 : w.heap.size < w1.heap.size := (by omega); try have hz2 : w.heap.size + 1 < w1.heap.size := (by omega)) | (go_at_call 52; refine (l1In_any _ _ _ _).mono ?_; rintro e w1 ⟨rfl, rfl⟩) | (go_at_call 53; refine (from0 (mvAt_any _ _ _ _ _ _ (by with_reducible assumption) hs hs' _) (by first | exact hb0 | exact up_alloc hb0 _ | exact up_drew hb0 | exact up_drewN hb0 _ | exact Below.refl _ _)).mono ?_; rintro e w1 ⟨rfl, hb0⟩; obtain ⟨hc0, hf0⟩ := bcell hb0) | (go_at_call 41; refine (from0 (mvPart_any _ _ (by omega) (by omega) (by omega) (by omega) _) (by first | exact hb0 | exact up_alloc hb0 _ | exact up_drew hb0 | exact up_drewN hb0 _ | exact Below.refl _ _)).mono ?_; rintro e w1 ⟨rfl, hb0⟩; obtain ⟨hc0, hf0⟩ := bcell hb0))
  go_ret3
  rw [H.out]
  exact ⟨rfl, by (repeat (first | with_reducible exact Below.refl _ _ | with_reducible assumption | with_reducible refine up_alloc ?_ _ | with_reducible refine up_drew ?_ | with_reducible refine up_drewN ?_ _ | (with_reducible refine up_set ?_ ?hset _; case hset => first | (simp; done) | (simp; omega) | omega) | with_reducible refine up_trans ?_ (by with_reducible assumption)))⟩
set_option maxHeartbeats 400000 in
theorem apDistance_any (d : Int) (w : World) : Calls Try.prog 46 #[.int .i64 d] w fun e w' => e = .returned (.bool (inB d 0 80)) ∧ w = w' := by
  go_enter Try.func46, Try.ntmps46
  go_wp2_with (go_at_call 52; refine (l1In_any _ _ _ _).mono ?_; rintro e w1 ⟨rfl, rfl⟩)
  go_ret
  exact ⟨rfl, rfl⟩
end Go.Proofs.Ytljdhicmcmppgaa
namespace Go.Proofs.Ytljdhicmcmppgaa
open Go.RowKit Go.Sort

/-- Returned: n spots in new memory, and a Bool. -/
def AnsSB (w : World) (n : Nat) (X Y : Nat → Int) (q : Bool) (e : Ending) (w' : World) : Prop := ∃ v, e = .returned (.tuple #[v, .bool q]) ∧ OwnS w.heap.size w' v n X Y ∧ Below w.heap.size w w'
theorem AnsSB.nil {w w' : World} {X Y : Nat → Int} (hb : Below w.heap.size w w') : AnsSB w 0 X Y false (.returned (.tuple #[.slice none 0 0, .bool false])) w' := ⟨_, rfl, ⟨_, _, rfl, Nat.le_refl _, fun h => absurd h (by omega)⟩, hb⟩
def sel (q : Bool) (n : Nat) : Nat := if q then n else 0
theorem sel_le (q : Bool) (n : Nat) : sel q n ≤ n := by unfold sel; split <;> omega
/-- The list if q, else nil. -/
def selV (q : Bool) (v : Value) : Value := if q then v else .slice none 0 0
theorem selV_own {base : Nat} {w : World} {v : Value} {n : Nat} {X Y : Nat → Int} (q : Bool) (h : OwnS base w v n X Y) : OwnS base w (selV q v) (sel q n) X Y := by
  cases q with
  | true => exact h
  | false => exact ⟨_, _, rfl, Nat.le_refl _, fun h => absurd h (by simp [sel])⟩
theorem AnsSB.sel {w w' : World} {v : Value} {n : Nat} {X Y : Nat → Int} {q : Bool} (h : OwnS w.heap.size w' v n X Y) (hb : Below w.heap.size w w') : AnsSB w (sel q n) X Y q (.returned (.tuple #[selV q v, .bool q])) w' := ⟨_, rfl, selV_own q h, hb⟩
end Go.Proofs.Ytljdhicmcmppgaa
namespace Go.Proofs.Ytljdhicmcmppgaa
open Go.RowKit Go.Sort

theorem neq_spot (x y u v : Int) (w : World) : (binOp .neq 24 (.agg #[.int .i64 x, .int .i64 y]) (.agg #[.int .i64 u, .int .i64 v])).run Try.prog w = .ok (.bool (!same x y u v)) w := by
  have u3 := Try.underlying3
  have a3 := Try.isAgg3
  have z3 := Try.sizeOf3
  have hS : Try.prog.underlying 24 = some (.struct (Try.prog.fieldsOf 24)) := by kernel_rfl
  have hp : Try.prog.stoodInHeld 24 = false := by kernel_rfl
  unfold same
  rw [run_neq_struct, show (10000 : Nat) = 9999 + 1 from rfl, run_equalIn_agg w 9999 24 _ _ hS hp]
  simp only [Program.fieldsOf, Try.underlying24]
  go_simp
  by_cases h1 : x = u <;> by_cases h2 : y = v <;> simp [h1, h2]
/-- The places below n that D holds of, in order. -/
def chL (D : Nat → Bool) : Nat → List Int
  | 0 => []
  | k + 1 => if D k then chL D k ++ [(k : Int)] else chL D k
theorem chL_len (D : Nat → Bool) : ∀ k, (chL D k).length ≤ k
  | 0 => Nat.le_refl _
  | k + 1 => by
    have := chL_len D k
    unfold chL
    split
    · rw [List.length_append]; simp; omega
    · omega
/-- Where two lists of spots differ. -/
def difB (X Y X' Y' : Nat → Int) (i : Nat) : Bool := !same (X i) (Y i) (X' i) (Y' i)
def cpB (n : Nat) (X Y : Nat → Int) (m : Nat) (X' Y' : Nat → Int) : Bool := (chartB n X Y && chartB m X' Y') && decide (n = m)
def cgN (n : Nat) (X Y : Nat → Int) (m : Nat) (X' Y' : Nat → Int) : Nat := if cpB n X Y m X' Y' then (chL (difB X Y X' Y') n).length else 0
def cgX (n : Nat) (X Y X' Y' : Nat → Int) (i : Nat) : Int := (chL (difB X Y X' Y') n).getD i 0
theorem cgN_le (n : Nat) (X Y : Nat → Int) (m : Nat) (X' Y' : Nat → Int) : cgN n X Y m X' Y' ≤ n := by
  unfold cgN
  split
  · exact chL_len _ _
  · omega
end Go.Proofs.Ytljdhicmcmppgaa
