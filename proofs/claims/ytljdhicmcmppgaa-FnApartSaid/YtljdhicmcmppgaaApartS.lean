/-
  How near two moves come, by the reference's functions.
-/
import Derived.Test.YtljdhicmcmppgaaRows
import Derived.Test.YtljdhicmcmppgaaBase
import Derived.Test.YtljdhicmcmppgaaSpot
import Derived.Test.YtljdhicmcmppgaaMove
import Derived.Test.YtljdhicmcmppgaaGcd
import Derived.Test.YtljdhicmcmppgaaApart
namespace Go.Proofs.Ytljdhicmcmppgaa
open Go.RowKit

/-- The way at the end, too. -/
structure WayQ (u v u' v' px py vx vy qx qy : Int) : Prop where
  q1 : qx = u - u'
  q2 : qy = v - v'
  q3 : vx = qx - px
  q4 : vy = qy - py
theorem Way.q {x y u v x' y' u' v' px py vx vy dot sz : Int} (h : Way x y u v x' y' u' v' px py vx vy dot sz) : WayQ u v u' v' px py vx vy (u - u') (v - v') := ⟨rfl, rfl, h.k3, h.k4⟩

theorem ap_eq {px py vx vy dot sz qx qy : Int} (h5 : dot = px * vx + py * vy) (h6 : sz = vx * vx + vy * vy) (q3 : vx = qx - px) (q4 : vy = qy - py) :
    ap px py vx vy dot sz = if 0 < -dot ∧ -dot < sz then (lowA ((px * qy - py * qx) * (px * qy - py * qx)) sz, lowB ((px * qy - py * qx) * (px * qy - py * qx)) sz) else (min (px * px + py * py) (qx * qx + qy * qy), 1) := by
  have hq : qx * qx + qy * qy = px * px + py * py + 2 * dot + sz := by subst h5 h6 q3 q4; grind
  have hc : px * vy - py * vx = px * qy - py * qx := by subst q3 q4; grind
  have hs : 0 ≤ sz := by rw [h6]; have := sq_nonneg vx; have := sq_nonneg vy; omega
  have e1 : px + vx = qx := by omega
  have e2 : py + vy = qy := by omega
  unfold ap
  rw [hc, e1, e2]
  by_cases hd : 0 ≤ dot
  · rw [if_pos hd, if_neg (by omega), show min (px * px + py * py) (qx * qx + qy * qy) = px * px + py * py by omega]
  · rw [if_neg hd]
    by_cases hz : sz ≤ -dot
    · rw [if_pos hz, if_neg (by omega), show min (px * px + py * py) (qx * qx + qy * qy) = qx * qx + qy * qy by omega]
    · rw [if_neg hz, if_pos (by omega)]

set_option maxHeartbeats 1000000 in
theorem apEnds_any (x y u v c x' y' u' v' c' px py vx vy dot sz qx qy : Int) (h : Way x y u v x' y' u' v' px py vx vy dot sz) (hq : WayQ u v u' v' px py vx vy qx qy) (hm : moveB x y u v c = true) (hm' : moveB x' y' u' v' c' = true) (w : World) :
    Calls Try.prog 42 #[.agg #[.int .i64 x, .int .i64 y, .int .i64 u, .int .i64 v, .int .i64 c], .agg #[.int .i64 x', .int .i64 y', .int .i64 u', .int .i64 v', .int .i64 c']] w
      (Ans w (.tuple #[.int .i64 px, .int .i64 py, .int .i64 qx, .int .i64 qy])) := by
  rw [moveB_iff, spotB_iff, spotB_iff] at hm hm'
  obtain ⟨⟨⟨⟨i1, i2⟩, i3, i4⟩, ⟨i5, i6⟩, i7, i8⟩, i9, i10⟩ := hm
  obtain ⟨⟨⟨⟨j1, j2⟩, j3, j4⟩, ⟨j5, j6⟩, j7, j8⟩, j9, j10⟩ := hm'
  have HX := Lib.hid h.k1
  have HY := Lib.hid h.k2
  have HU := Lib.hid hq.q1
  have HV := Lib.hid hq.q2
  clear h hq
  have z0 : IntKind.i64.wrap (x - x') = x - x' := IntWalk.i64_in _ (by omega)
  have z1 : IntKind.i64.wrap (y - y') = y - y' := IntWalk.i64_in _ (by omega)
  have z2 : IntKind.i64.wrap (u - u') = u - u' := IntWalk.i64_in _ (by omega)
  have z3 : IntKind.i64.wrap (v - v') = v - v' := IntWalk.i64_in _ (by omega)
  go_enter Try.func42, Try.ntmps42
  go_wp2
  go_quiet (fail)
  go_wp2
  refine bodyPost_ret (v := .tuple #[.int .i64 (x - x'), .int .i64 (y - y'), .int .i64 (u - u'), .int .i64 (v - v')]) (by simp [results, Try.results42, go_sem, *]) rfl ?_
  rw [HX.out, HY.out, HU.out, HV.out]
  exact ⟨rfl, by (repeat (first | with_reducible exact Below.refl _ _ | with_reducible assumption | with_reducible refine up_alloc ?_ _ | with_reducible refine up_drew ?_ | with_reducible refine up_drewN ?_ _ | (with_reducible refine up_set ?_ ?hset _; case hset => first | (simp; done) | (simp; omega) | omega) | with_reducible refine up_trans ?_ (by with_reducible assumption)))⟩
def inN (dot sz : Int) : Int := if 0 < -dot ∧ -dot < sz then -dot else 0
def inD (dot sz : Int) : Int := if 0 < -dot ∧ -dot < sz then sz else 0
set_option maxHeartbeats 1000000 in
theorem apInner_any (x y u v c x' y' u' v' c' px py vx vy dot sz qx qy : Int) (h : Way x y u v x' y' u' v' px py vx vy dot sz) (hq : WayQ u v u' v' px py vx vy qx qy) (hm : moveB x y u v c = true) (hm' : moveB x' y' u' v' c' = true) (w : World) :
    Calls Try.prog 40 #[.agg #[.int .i64 x, .int .i64 y, .int .i64 u, .int .i64 v, .int .i64 c], .agg #[.int .i64 x', .int .i64 y', .int .i64 u', .int .i64 v', .int .i64 c']] w
      (Ans w (.tuple #[.int .i64 (inN dot sz), .int .i64 (inD dot sz)])) := by
  have HE := Lib.hid (apEnds_any x y u v c x' y' u' v' c' px py vx vy dot sz qx qy h hq hm hm')
  obtain ⟨p1, p2, p3, p4, v1, v2, v3, v4, a1, a2, b1, b2, c1, c2, d1, d2, e1, e2, f1, f2, g1, g2, h1, h2⟩ := h.bd hm hm'
  obtain ⟨k1, k2, k3, k4, k5, k6⟩ := h
  obtain ⟨q1, q2, q3, q4⟩ := hq
  clear k1 k2 k3 k4 q1 q2
  subst q3 q4
  have HA := Lib.hid (show (inN dot sz = if 0 < -dot ∧ -dot < sz then -dot else 0) ∧ (inD dot sz = if 0 < -dot ∧ -dot < sz then sz else 0) from ⟨rfl, rfl⟩)
  subst k5 k6
  go_enter Try.func40, Try.ntmps40
  go_wp2_with (first | (go_at_call 42; refine (from0 (HE.out _) (by first | exact hb0 | exact up_alloc hb0 _ | exact up_drew hb0 | exact up_drewN hb0 _ | exact Below.refl _ _)).mono ?_; rintro e w1 ⟨rfl, hb0⟩; obtain ⟨hc0, hf0⟩ := bcell hb0))
  all_goals
    go_ret2
    exact Ans.int2 (by rw [HA.out.1]; split <;> omega) (by rw [HA.out.2]; split <;> omega) (by (repeat (first | with_reducible exact Below.refl _ _ | with_reducible assumption | with_reducible refine up_alloc ?_ _ | with_reducible refine up_drew ?_ | with_reducible refine up_drewN ?_ _ | (with_reducible refine up_set ?_ ?hset _; case hset => first | (simp; done) | (simp; omega) | omega) | with_reducible refine up_trans ?_ (by with_reducible assumption))))
set_option maxHeartbeats 1000000 in
theorem apLeast_any (x y u v c x' y' u' v' c' px py vx vy dot sz : Int) (h : Way x y u v x' y' u' v' px py vx vy dot sz) (hm : moveB x y u v c = true) (hm' : moveB x' y' u' v' c' = true) (w : World) :
    Calls Try.prog 37 #[.agg #[.int .i64 x, .int .i64 y, .int .i64 u, .int .i64 v, .int .i64 c], .agg #[.int .i64 x', .int .i64 y', .int .i64 u', .int .i64 v', .int .i64 c']] w
      (Ans w (.tuple #[.int .i64 (ap px py vx vy dot sz).1, .int .i64 (ap px py vx vy dot sz).2])) := by
  obtain ⟨qx, qy, hq⟩ : ∃ qx qy, WayQ u v u' v' px py vx vy qx qy := ⟨_, _, h.q⟩
  have HE := Lib.hid (apEnds_any x y u v c x' y' u' v' c' px py vx vy dot sz qx qy h hq hm hm')
  have HI := Lib.hid (apInner_any x y u v c x' y' u' v' c' px py vx vy dot sz qx qy h hq hm hm')
  have hB := h.bd hm hm'
  have hc : px * vy - py * vx = px * qy - py * qx := by rw [hq.q3, hq.q4]; grind
  have hcb := cross_bd hB
  rw [hc] at hcb
  obtain ⟨cr1, cr2⟩ := hcb
  have cc : -3440640 ≤ px * qy - py * qx ∧ px * qy - py * qx ≤ 3440640 := by rw [← hc]; have := hB.g1; have := hB.g2; have := hB.h1; have := hB.h2; omega
  obtain ⟨cc1, cc2⟩ := cc
  have A1 := ap_eq h.k5 h.k6 hq.q3 hq.q4
  obtain ⟨p1, p2, p3, p4, v1, v2, v3, v4, a1, a2, b1, b2, c1, c2, d1, d2, e1, e2, f1, f2, g1, g2, h1, h2⟩ := hB
  rw [moveB_iff, spotB_iff, spotB_iff] at hm hm'
  have r1 : -1280 ≤ qx := by rw [hq.q1]; omega
  have r2 : qx ≤ 1280 := by rw [hq.q1]; omega
  have r3 : -672 ≤ qy := by rw [hq.q2]; omega
  have r4 : qy ≤ 672 := by rw [hq.q2]; omega
  obtain ⟨s1, s2⟩ := mul_bd p1 p2 r3 r4
  obtain ⟨s3, s4⟩ := mul_bd p3 p4 r1 r2
  obtain ⟨s5, s6⟩ := mul_bd r1 r2 r1 r2
  obtain ⟨s7, s8⟩ := mul_bd r3 r4 r3 r4
  have D1 : -4179968 ≤ dot ∧ dot ≤ 4179968 := by rw [h.k5]; omega
  have S1 : 0 ≤ sz ∧ sz ≤ 8359936 := by rw [h.k6]; omega
  obtain ⟨D1, D2⟩ := D1
  obtain ⟨S1, S2⟩ := S1
  clear h hq hm hm' hc
  by_cases hi : 0 < -dot ∧ -dot < sz
  · rw [if_pos hi] at A1
    have HA := Lib.hid A1
    have hD : inD dot sz = sz := if_pos hi
    have hN : inN dot sz = -dot := if_pos hi
    rw [hD, hN] at HI
    obtain ⟨hi1, hi2⟩ := hi
    have hs : 0 < sz := by omega
    clear A1 hD hN
    go_enter Try.func37, Try.ntmps37
    go_wp2_with (first | (go_at_call 42; refine (from0 (HE.out _) (by first | exact hb0 | exact up_alloc hb0 _ | exact up_drew hb0 | exact up_drewN hb0 _ | exact Below.refl _ _)).mono ?_; rintro e w1 ⟨rfl, hb0⟩; obtain ⟨hc0, hf0⟩ := bcell hb0) | (go_at_call 40; refine (from0 (HI.out _) (by first | exact hb0 | exact up_alloc hb0 _ | exact up_drew hb0 | exact up_drewN hb0 _ | exact Below.refl _ _)).mono ?_; rintro e w1 ⟨rfl, hb0⟩; obtain ⟨hc0, hf0⟩ := bcell hb0) | (go_at_call 41; refine (from0 (mvPart_any _ _ cr1 (by omega) hs (by omega) _) (by first | exact hb0 | exact up_alloc hb0 _ | exact up_drew hb0 | exact up_drewN hb0 _ | exact Below.refl _ _)).mono ?_; rintro e w1 ⟨rfl, hb0⟩; obtain ⟨hc0, hf0⟩ := bcell hb0))
    go_ret2
    exact Ans.int2 (by rw [HA.out]) (by rw [HA.out]) (by (repeat (first | with_reducible exact Below.refl _ _ | with_reducible assumption | with_reducible refine up_alloc ?_ _ | with_reducible refine up_drew ?_ | with_reducible refine up_drewN ?_ _ | (with_reducible refine up_set ?_ ?hset _; case hset => first | (simp; done) | (simp; omega) | omega) | with_reducible refine up_trans ?_ (by with_reducible assumption))))
  · rw [if_neg hi] at A1
    have HA := Lib.hid A1
    have hD : inD dot sz = 0 := if_neg hi
    have hN : inN dot sz = 0 := if_neg hi
    rw [hD, hN] at HI
    clear A1 hD hN
    go_enter Try.func37, Try.ntmps37
    go_wp2_with (first | (go_at_call 42; refine (from0 (HE.out _) (by first | exact hb0 | exact up_alloc hb0 _ | exact up_drew hb0 | exact up_drewN hb0 _ | exact Below.refl _ _)).mono ?_; rintro e w1 ⟨rfl, hb0⟩; obtain ⟨hc0, hf0⟩ := bcell hb0) | (go_at_call 40; refine (from0 (HI.out _) (by first | exact hb0 | exact up_alloc hb0 _ | exact up_drew hb0 | exact up_drewN hb0 _ | exact Below.refl _ _)).mono ?_; rintro e w1 ⟨rfl, hb0⟩; obtain ⟨hc0, hf0⟩ := bcell hb0) | (go_at_call 69; refine (l1Least_any _ _ _).mono ?_; rintro e w1 ⟨rfl, rfl⟩))
    go_ret2
    exact Ans.int2 (by rw [HA.out]) (by rw [HA.out]) (by (repeat (first | with_reducible exact Below.refl _ _ | with_reducible assumption | with_reducible refine up_alloc ?_ _ | with_reducible refine up_drew ?_ | with_reducible refine up_drewN ?_ _ | (with_reducible refine up_set ?_ ?hset _; case hset => first | (simp; done) | (simp; omega) | omega) | with_reducible refine up_trans ?_ (by with_reducible assumption))))
/-- What both sides' LeastApart hands back. -/
def lapV (x y u v c x' y' u' v' c' : Int) : Value :=
  if togB x y u v c x' y' u' v' c' then
    .tuple #[.int .i64 (ap (x - x') (y - y') (u - u' - (x - x')) (v - v' - (y - y')) ((x - x') * (u - u' - (x - x')) + (y - y') * (v - v' - (y - y'))) ((u - u' - (x - x')) * (u - u' - (x - x')) + (v - v' - (y - y')) * (v - v' - (y - y')))).1,
      .int .i64 (ap (x - x') (y - y') (u - u' - (x - x')) (v - v' - (y - y')) ((x - x') * (u - u' - (x - x')) + (y - y') * (v - v' - (y - y'))) ((u - u' - (x - x')) * (u - u' - (x - x')) + (v - v' - (y - y')) * (v - v' - (y - y')))).2, .bool true]
  else .tuple #[.int .i64 0, .int .i64 0, .bool false]
theorem Way.mk' (x y u v x' y' u' v' : Int) : Way x y u v x' y' u' v' (x - x') (y - y') (u - u' - (x - x')) (v - v' - (y - y')) ((x - x') * (u - u' - (x - x')) + (y - y') * (v - v' - (y - y'))) ((u - u' - (x - x')) * (u - u' - (x - x')) + (v - v' - (y - y')) * (v - v' - (y - y'))) := ⟨rfl, rfl, rfl, rfl, rfl, rfl⟩
set_option maxHeartbeats 1000000 in
theorem iLeastApart_any (x y u v c x' y' u' v' c' : Int) (w : World) :
    Calls Try.prog 6 #[.agg #[.int .i64 x, .int .i64 y, .int .i64 u, .int .i64 v, .int .i64 c], .agg #[.int .i64 x', .int .i64 y', .int .i64 u', .int .i64 v', .int .i64 c']] w
      (Ans w (lapV x y u v c x' y' u' v' c')) := by
  have HT := Lib.hid (goTogether_any x y u v c x' y' u' v' c')
  by_cases ht : togB x y u v c x' y' u' v' c' = true
  · have HV := Lib.hid (show lapV x y u v c x' y' u' v' c' = _ from if_pos ht)
    have hm := togB_iff.1 ht
    have HL := Lib.hid (leastApart_any x y u v c x' y' u' v' c' _ _ _ _ _ _ (Way.mk' x y u v x' y' u' v') hm.1.1 hm.1.2)
    rw [ht] at HT
    generalize ap _ _ _ _ _ _ = r at *
    clear hm ht
    go_enter Try.func6, Try.ntmps6
    go_wp2_with (first | (go_at_call 34; refine (from0 (HT.out _) (by first | exact hb0 | exact up_alloc hb0 _ | exact up_drew hb0 | exact up_drewN hb0 _ | exact Below.refl _ _)).mono ?_; rintro e w1 ⟨rfl, hb0⟩; obtain ⟨hc0, hf0⟩ := bcell hb0; have hz0 := hb0.size; simp at hz0; have hz1 : w.heap.size < w1.heap.size := (by omega); try have hz2 : w.heap.size + 1 < w1.heap.size := (by omega)) | (go_at_call 35; refine (from0 (HL.out _) (by first | exact hb0 | exact up_alloc hb0 _ | exact up_drew hb0 | exact up_drewN hb0 _ | exact Below.refl _ _)).mono ?_; rintro e w1 ⟨rfl, hb0⟩; obtain ⟨hc0, hf0⟩ := bcell hb0))
    go_ret3
    rw [HV.out]
    exact ⟨rfl, by (repeat (first | with_reducible exact Below.refl _ _ | with_reducible assumption | with_reducible refine up_alloc ?_ _ | with_reducible refine up_drew ?_ | with_reducible refine up_drewN ?_ _ | (with_reducible refine up_set ?_ ?hset _; case hset => first | (simp; done) | (simp; omega) | omega) | with_reducible refine up_trans ?_ (by with_reducible assumption)))⟩
  · have HV := Lib.hid (show lapV x y u v c x' y' u' v' c' = _ from if_neg ht)
    rw [Bool.not_eq_true] at ht
    rw [ht] at HT
    clear ht
    go_enter Try.func6, Try.ntmps6
    go_wp2_with (first | (go_at_call 34; refine (from0 (HT.out _) (by first | exact hb0 | exact up_alloc hb0 _ | exact up_drew hb0 | exact up_drewN hb0 _ | exact Below.refl _ _)).mono ?_; rintro e w1 ⟨rfl, hb0⟩; obtain ⟨hc0, hf0⟩ := bcell hb0; have hz0 := hb0.size; simp at hz0; have hz1 : w.heap.size < w1.heap.size := (by omega); try have hz2 : w.heap.size + 1 < w1.heap.size := (by omega)))
    go_ret3
    rw [HV.out]
    exact ⟨rfl, by (repeat (first | with_reducible exact Below.refl _ _ | with_reducible assumption | with_reducible refine up_alloc ?_ _ | with_reducible refine up_drew ?_ | with_reducible refine up_drewN ?_ _ | (with_reducible refine up_set ?_ ?hset _; case hset => first | (simp; done) | (simp; omega) | omega) | with_reducible refine up_trans ?_ (by with_reducible assumption)))⟩
set_option maxHeartbeats 1000000 in
theorem sLeastApart_any (x y u v c x' y' u' v' c' : Int) (w : World) :
    Calls Try.prog 7 #[.agg #[.int .i64 x, .int .i64 y, .int .i64 u, .int .i64 v, .int .i64 c], .agg #[.int .i64 x', .int .i64 y', .int .i64 u', .int .i64 v', .int .i64 c']] w
      (Ans w (lapV x y u v c x' y' u' v' c')) := by
  have HT := Lib.hid (apGood_any x y u v c x' y' u' v' c')
  by_cases ht : togB x y u v c x' y' u' v' c' = true
  · have HV := Lib.hid (show lapV x y u v c x' y' u' v' c' = _ from if_pos ht)
    have hm := togB_iff.1 ht
    have HL := Lib.hid (apLeast_any x y u v c x' y' u' v' c' _ _ _ _ _ _ (Way.mk' x y u v x' y' u' v') hm.1.1 hm.1.2)
    rw [ht] at HT
    generalize ap _ _ _ _ _ _ = r at *
    clear hm ht
    go_enter Try.func7, Try.ntmps7
    go_wp2_with (first | (go_at_call 36; refine (from0 (HT.out _) (by first | exact hb0 | exact up_alloc hb0 _ | exact up_drew hb0 | exact up_drewN hb0 _ | exact Below.refl _ _)).mono ?_; rintro e w1 ⟨rfl, hb0⟩; obtain ⟨hc0, hf0⟩ := bcell hb0; have hz0 := hb0.size; simp at hz0; have hz1 : w.heap.size < w1.heap.size := (by omega); try have hz2 : w.heap.size + 1 < w1.heap.size := (by omega)) | (go_at_call 37; refine (from0 (HL.out _) (by first | exact hb0 | exact up_alloc hb0 _ | exact up_drew hb0 | exact up_drewN hb0 _ | exact Below.refl _ _)).mono ?_; rintro e w1 ⟨rfl, hb0⟩; obtain ⟨hc0, hf0⟩ := bcell hb0))
    go_ret3
    rw [HV.out]
    exact ⟨rfl, by (repeat (first | with_reducible exact Below.refl _ _ | with_reducible assumption | with_reducible refine up_alloc ?_ _ | with_reducible refine up_drew ?_ | with_reducible refine up_drewN ?_ _ | (with_reducible refine up_set ?_ ?hset _; case hset => first | (simp; done) | (simp; omega) | omega) | with_reducible refine up_trans ?_ (by with_reducible assumption)))⟩
  · have HV := Lib.hid (show lapV x y u v c x' y' u' v' c' = _ from if_neg ht)
    rw [Bool.not_eq_true] at ht
    rw [ht] at HT
    clear ht
    go_enter Try.func7, Try.ntmps7
    go_wp2_with (first | (go_at_call 36; refine (from0 (HT.out _) (by first | exact hb0 | exact up_alloc hb0 _ | exact up_drew hb0 | exact up_drewN hb0 _ | exact Below.refl _ _)).mono ?_; rintro e w1 ⟨rfl, hb0⟩; obtain ⟨hc0, hf0⟩ := bcell hb0; have hz0 := hb0.size; simp at hz0; have hz1 : w.heap.size < w1.heap.size := (by omega); try have hz2 : w.heap.size + 1 < w1.heap.size := (by omega)))
    go_ret3
    rw [HV.out]
    exact ⟨rfl, by (repeat (first | with_reducible exact Below.refl _ _ | with_reducible assumption | with_reducible refine up_alloc ?_ _ | with_reducible refine up_drew ?_ | with_reducible refine up_drewN ?_ _ | (with_reducible refine up_set ?_ ?hset _; case hset => first | (simp; done) | (simp; omega) | omega) | with_reducible refine up_trans ?_ (by with_reducible assumption)))⟩
end Go.Proofs.Ytljdhicmcmppgaa
