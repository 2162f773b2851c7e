/-
  ClosestTime and ApartAt on both sides, for all arguments.
-/
import Derived.Test.YtljdhicmcmppgaaRows
import Derived.Test.YtljdhicmcmppgaaBase
import Derived.Test.YtljdhicmcmppgaaSpot
import Derived.Test.YtljdhicmcmppgaaInts
import Derived.Test.YtljdhicmcmppgaaApP
import Derived.Test.YtljdhicmcmppgaaDrawY
import Derived.Deep.QuietTactic
import Derived.BigQuiet
import Derived.Test.YtljdhicmcmppgaaApC
namespace Go.Proofs.Ytljdhicmcmppgaa
open Go.RowKit Go.ChangeShapes Go.WideShapes Go.Sort

set_option maxRecDepth 100000 in
set_option maxHeartbeats 4000000 in
theorem sClosestTime_ok (x y u v c x' y' u' v' px py vx vy dot sz : Int) (h : Way x y u v x' y' u' v' px py vx vy dot sz) (hm : moveB x y u v c = true) (hm' : moveB x' y' u' v' c = true) (w : World) :
    Calls Try.prog 9 #[.agg #[.int .i64 x, .int .i64 y, .int .i64 u, .int .i64 v, .int .i64 c], .agg #[.int .i64 x', .int .i64 y', .int .i64 u', .int .i64 v', .int .i64 c]] w (Ans w (.tuple #[.int .i64 (ctA dot sz c), .int .i64 (ctZ dot sz c), .bool true])) := by
  have HT := Lib.hid (apGood_any x y u v c x' y' u' v' c)
  rw [togB_iff.2 ⟨⟨hm, hm'⟩, rfl⟩] at HT
  obtain ⟨qx, qy, hq⟩ : ∃ qx qy, WayQ u v u' v' px py vx vy qx qy := ⟨_, _, h.q⟩
  have HE := Lib.hid (apEnds_any x y u v c x' y' u' v' c px py vx vy dot sz qx qy h hq hm hm')
  have HI := Lib.hid (apInner_any x y u v c x' y' u' v' c px py vx vy dot sz qx qy h hq hm hm')
  have hB := h.bd hm hm'
  have hqq : qx * qx + qy * qy = px * px + py * py + 2 * dot + sz := by rw [h.k5, h.k6, hq.q3, hq.q4]; grind
  obtain ⟨p1, p2, p3, p4, v1, v2, v3, v4, a1, a2, b1, b2, c1, c2, d1, d2, e1, e2, f1, f2, g1, g2, h1, h2⟩ := hB
  have hc := (moveB_iff.1 hm).2
  rw [moveB_iff, spotB_iff, spotB_iff] at hm hm'
  have r1 : -1280 ≤ qx := by rw [hq.q1]; omega
  have r2 : qx ≤ 1280 := by rw [hq.q1]; omega
  have r3 : -672 ≤ qy := by rw [hq.q2]; omega
  have r4 : qy ≤ 672 := by rw [hq.q2]; omega
  obtain ⟨s5, s6⟩ := mul_bd r1 r2 r1 r2
  obtain ⟨s7, s8⟩ := mul_bd r3 r4 r3 r4
  obtain ⟨s1, s2⟩ := mul_bd p1 p2 p1 p2
  obtain ⟨s3, s4⟩ := mul_bd p3 p4 p3 p4
  have D1 : -4179968 ≤ dot ∧ dot ≤ 4179968 := by rw [h.k5]; omega
  have S1 : 0 ≤ sz ∧ sz ≤ 8359936 := by rw [h.k6]; omega
  have mb := mul_bd (a := -dot) (b := c) (A := 4179968) (B := 64) (by omega) (by omega) (by omega) (by omega)
  obtain ⟨D1, D2⟩ := D1
  obtain ⟨S1, S2⟩ := S1
  clear h hq hm hm'
  have HA := Lib.hid (show ctA dot sz c = if 0 ≤ dot then 0 else if sz ≤ -dot then c else lowA (-dot * c) sz from rfl)
  have HZ := Lib.hid (show ctZ dot sz c = if 0 ≤ dot then 1 else if sz ≤ -dot then 1 else lowB (-dot * c) sz from rfl)
  obtain ⟨m1, m2⟩ := mb
  by_cases hi : 0 < -dot ∧ -dot < sz
  · have hD : inD dot sz = sz := if_pos hi
    have hN : inN dot sz = -dot := if_pos hi
    rw [hD, hN] at HI
    obtain ⟨hi1, hi2⟩ := hi
    have hs : 0 < sz := by omega
    have hn : 0 ≤ -dot * c := Int.mul_nonneg (by omega) (by omega)
    have HLo := Lib.hid (mvPart_any (-dot * c) sz hn (by omega) (by omega) (by omega))
    clear hD hN hqq
    go_enter Try.func9, Try.ntmps9
    go_wp2_with (first | (go_at_call 36; refine (from0 (HT.out _) (by first | exact hb0 | exact up_alloc hb0 _ | exact up_drew hb0 | exact up_drewN hb0 _ | exact Below.refl _ _)).mono ?_; rintro e w1 ⟨rfl, hb0⟩; obtain ⟨hc0, hf0⟩ := bcell hb0; have hz0 := hb0.size; simp at hz0; have hz1 : w.heap.size < w1.heap.size := (by omega); try have hz2 : w.heap.size + 1 < w1.heap.size := (by omega)) | (go_at_call 40; refine (from0 (HI.out _) (by first | exact hb0 | exact up_alloc hb0 _ | exact up_drew hb0 | exact up_drewN hb0 _ | exact Below.refl _ _)).mono ?_; rintro e w1 ⟨rfl, hb0⟩; obtain ⟨hc0, hf0⟩ := bcell hb0) | (go_at_call 41; refine (from0 (HLo.out _) (by first | exact hb0 | exact up_alloc hb0 _ | exact up_drew hb0 | exact up_drewN hb0 _ | exact Below.refl _ _)).mono ?_; rintro e w1 ⟨rfl, hb0⟩; obtain ⟨hc0, hf0⟩ := bcell hb0))
    go_ret3
    rw [HA.out, HZ.out, if_neg (by omega : ¬ 0 ≤ dot), if_neg (by omega : ¬ 0 ≤ dot), if_neg (by omega : ¬ sz ≤ -dot), if_neg (by omega : ¬ sz ≤ -dot)]
    exact ⟨rfl, by (repeat (first | with_reducible exact Below.refl _ _ | with_reducible assumption | with_reducible refine up_alloc ?_ _ | with_reducible refine up_drew ?_ | with_reducible refine up_drewN ?_ _ | (with_reducible refine up_set ?_ ?hset _; case hset => first | (simp; done) | (simp; omega) | omega) | with_reducible refine up_trans ?_ (by with_reducible assumption)))⟩
  · have hD : inD dot sz = 0 := if_neg hi
    have hN : inN dot sz = 0 := if_neg hi
    rw [hD, hN] at HI
    have HI2 := Lib.hid (show ¬ (0 < -dot ∧ -dot < sz) from hi)
    clear hD hN hi
    by_cases hlt : qx * qx + qy * qy < px * px + py * py
    · go_enter Try.func9, Try.ntmps9
      go_wp2_with (first | (go_at_call 36; refine (from0 (HT.out _) (by first | exact hb0 | exact up_alloc hb0 _ | exact up_drew hb0 | exact up_drewN hb0 _ | exact Below.refl _ _)).mono ?_; rintro e w1 ⟨rfl, hb0⟩; obtain ⟨hc0, hf0⟩ := bcell hb0; have hz0 := hb0.size; simp at hz0; have hz1 : w.heap.size < w1.heap.size := (by omega); try have hz2 : w.heap.size + 1 < w1.heap.size := (by omega)) | (go_at_call 40; refine (from0 (HI.out _) (by first | exact hb0 | exact up_alloc hb0 _ | exact up_drew hb0 | exact up_drewN hb0 _ | exact Below.refl _ _)).mono ?_; rintro e w1 ⟨rfl, hb0⟩; obtain ⟨hc0, hf0⟩ := bcell hb0) | (go_at_call 42; refine (from0 (HE.out _) (by first | exact hb0 | exact up_alloc hb0 _ | exact up_drew hb0 | exact up_drewN hb0 _ | exact Below.refl _ _)).mono ?_; rintro e w1 ⟨rfl, hb0⟩; obtain ⟨hc0, hf0⟩ := bcell hb0))
      go_ret3
      have hi := HI2.out
      rw [HA.out, HZ.out, if_neg (by omega : ¬ 0 ≤ dot), if_neg (by omega : ¬ 0 ≤ dot), if_pos (by omega : sz ≤ -dot), if_pos (by omega : sz ≤ -dot)]
      exact ⟨rfl, by (repeat (first | with_reducible exact Below.refl _ _ | with_reducible assumption | with_reducible refine up_alloc ?_ _ | with_reducible refine up_drew ?_ | with_reducible refine up_drewN ?_ _ | (with_reducible refine up_set ?_ ?hset _; case hset => first | (simp; done) | (simp; omega) | omega) | with_reducible refine up_trans ?_ (by with_reducible assumption)))⟩
    · go_enter Try.func9, Try.ntmps9
      go_wp2_with (first | (go_at_call 36; refine (from0 (HT.out _) (by first | exact hb0 | exact up_alloc hb0 _ | exact up_drew hb0 | exact up_drewN hb0 _ | exact Below.refl _ _)).mono ?_; rintro e w1 ⟨rfl, hb0⟩; obtain ⟨hc0, hf0⟩ := bcell hb0; have hz0 := hb0.size; simp at hz0; have hz1 : w.heap.size < w1.heap.size := (by omega); try have hz2 : w.heap.size + 1 < w1.heap.size := (by omega)) | (go_at_call 40; refine (from0 (HI.out _) (by first | exact hb0 | exact up_alloc hb0 _ | exact up_drew hb0 | exact up_drewN hb0 _ | exact Below.refl _ _)).mono ?_; rintro e w1 ⟨rfl, hb0⟩; obtain ⟨hc0, hf0⟩ := bcell hb0) | (go_at_call 42; refine (from0 (HE.out _) (by first | exact hb0 | exact up_alloc hb0 _ | exact up_drew hb0 | exact up_drewN hb0 _ | exact Below.refl _ _)).mono ?_; rintro e w1 ⟨rfl, hb0⟩; obtain ⟨hc0, hf0⟩ := bcell hb0))
      go_ret3
      have hi := HI2.out
      rw [HA.out, HZ.out, if_pos (by omega : 0 ≤ dot), if_pos (by omega : 0 ≤ dot)]
      exact ⟨rfl, by (repeat (first | with_reducible exact Below.refl _ _ | with_reducible assumption | with_reducible refine up_alloc ?_ _ | with_reducible refine up_drew ?_ | with_reducible refine up_drewN ?_ _ | (with_reducible refine up_set ?_ ?hset _; case hset => first | (simp; done) | (simp; omega) | omega) | with_reducible refine up_trans ?_ (by with_reducible assumption)))⟩
/-- What both sides' ClosestTime hands back. -/
def ctM (x y u v x' y' u' v' c : Int) : Int × Int := (ctA ((x - x') * (u - u' - (x - x')) + (y - y') * (v - v' - (y - y'))) ((u - u' - (x - x')) * (u - u' - (x - x')) + (v - v' - (y - y')) * (v - v' - (y - y'))) c, ctZ ((x - x') * (u - u' - (x - x')) + (y - y') * (v - v' - (y - y'))) ((u - u' - (x - x')) * (u - u' - (x - x')) + (v - v' - (y - y')) * (v - v' - (y - y'))) c)
def ctV (x y u v c x' y' u' v' c' : Int) : Value := .tuple #[.int .i64 (if togB x y u v c x' y' u' v' c' then (ctM x y u v x' y' u' v' c).1 else 0), .int .i64 (if togB x y u v c x' y' u' v' c' then (ctM x y u v x' y' u' v' c).2 else 0), .bool (togB x y u v c x' y' u' v' c')]
theorem lapV_eq (x y u v c x' y' u' v' c' : Int) : lapV x y u v c x' y' u' v' c' = .tuple #[.int .i64 (if togB x y u v c x' y' u' v' c' then (apM x y u v x' y' u' v').1 else 0), .int .i64 (if togB x y u v c x' y' u' v' c' then (apM x y u v x' y' u' v').2 else 0), .bool (togB x y u v c x' y' u' v' c')] := by
  unfold lapV
  cases togB x y u v c x' y' u' v' c' <;> rfl
set_option maxRecDepth 100000 in
set_option maxHeartbeats 4000000 in
theorem iClosestTime_any (x y u v c x' y' u' v' c' : Int) (w : World) :
    Calls Try.prog 8 #[.agg #[.int .i64 x, .int .i64 y, .int .i64 u, .int .i64 v, .int .i64 c], .agg #[.int .i64 x', .int .i64 y', .int .i64 u', .int .i64 v', .int .i64 c']] w (Ans w (ctV x y u v c x' y' u' v' c')) := by
  cases ht : togB x y u v c x' y' u' v' c' with
  | true =>
    obtain ⟨⟨hm, hm'⟩, rfl⟩ := togB_iff.1 ht
    rw [show ctV x y u v c x' y' u' v' c = .tuple #[.int .i64 (ctA ((x - x') * (u - u' - (x - x')) + (y - y') * (v - v' - (y - y'))) ((u - u' - (x - x')) * (u - u' - (x - x')) + (v - v' - (y - y')) * (v - v' - (y - y'))) c), .int .i64 (ctZ ((x - x') * (u - u' - (x - x')) + (y - y') * (v - v' - (y - y'))) ((u - u' - (x - x')) * (u - u' - (x - x')) + (v - v' - (y - y')) * (v - v' - (y - y'))) c), .bool true] by unfold ctV; rw [ht]; rfl]
    exact iClosestTime_ok x y u v c x' y' u' v' _ _ _ _ _ _ (Way.mk' x y u v x' y' u' v') hm hm' w
  | false =>
    have HT := Lib.hid (goTogether_any x y u v c x' y' u' v' c')
    rw [ht] at HT
    have HV := Lib.hid (show ctV x y u v c x' y' u' v' c' = .tuple #[.int .i64 0, .int .i64 0, .bool false] by unfold ctV; rw [ht]; rfl)
    clear ht
    go_enter Try.func8, Try.ntmps8
    go_wp2_with (go_at_call 34; refine (from0 (HT.out _) (by first | exact hb0 | exact up_alloc hb0 _ | exact up_drew hb0 | exact up_drewN hb0 _ | exact Below.refl _ _)).mono ?_; rintro e w1 ⟨rfl, hb0⟩; obtain ⟨hc0, hf0⟩ := bcell hb0; have hz0 := hb0.size; simp at hz0; have hz1 : w.heap.size < w1.heap.size := (by omega); try have hz2 : w.heap.size + 1 < w1.heap.size := (by omega))
    go_ret3
    rw [HV.out]
    exact ⟨rfl, by (repeat (first | with_reducible exact Below.refl _ _ | with_reducible assumption | with_reducible refine up_alloc ?_ _ | with_reducible refine up_drew ?_ | with_reducible refine up_drewN ?_ _ | (with_reducible refine up_set ?_ ?hset _; case hset => first | (simp; done) | (simp; omega) | omega) | with_reducible refine up_trans ?_ (by with_reducible assumption)))⟩
set_option maxRecDepth 100000 in
set_option maxHeartbeats 4000000 in
theorem sClosestTime_any (x y u v c x' y' u' v' c' : Int) (w : World) :
    Calls Try.prog 9 #[.agg #[.int .i64 x, .int .i64 y, .int .i64 u, .int .i64 v, .int .i64 c], .agg #[.int .i64 x', .int .i64 y', .int .i64 u', .int .i64 v', .int .i64 c']] w (Ans w (ctV x y u v c x' y' u' v' c')) := by
  cases ht : togB x y u v c x' y' u' v' c' with
  | true =>
    obtain ⟨⟨hm, hm'⟩, rfl⟩ := togB_iff.1 ht
    rw [show ctV x y u v c x' y' u' v' c = .tuple #[.int .i64 (ctA ((x - x') * (u - u' - (x - x')) + (y - y') * (v - v' - (y - y'))) ((u - u' - (x - x')) * (u - u' - (x - x')) + (v - v' - (y - y')) * (v - v' - (y - y'))) c), .int .i64 (ctZ ((x - x') * (u - u' - (x - x')) + (y - y') * (v - v' - (y - y'))) ((u - u' - (x - x')) * (u - u' - (x - x')) + (v - v' - (y - y')) * (v - v' - (y - y'))) c), .bool true] by unfold ctV; rw [ht]; rfl]
    exact sClosestTime_ok x y u v c x' y' u' v' _ _ _ _ _ _ (Way.mk' x y u v x' y' u' v') hm hm' w
  | false =>
    have HT := Lib.hid (apGood_any x y u v c x' y' u' v' c')
    rw [ht] at HT
    have HV := Lib.hid (show ctV x y u v c x' y' u' v' c' = .tuple #[.int .i64 0, .int .i64 0, .bool false] by unfold ctV; rw [ht]; rfl)
    clear ht
    go_enter Try.func9, Try.ntmps9
    go_wp2_with (go_at_call 36; refine (from0 (HT.out _) (by first | exact hb0 | exact up_alloc hb0 _ | exact up_drew hb0 | exact up_drewN hb0 _ | exact Below.refl _ _)).mono ?_; rintro e w1 ⟨rfl, hb0⟩; obtain ⟨hc0, hf0⟩ := bcell hb0; have hz0 := hb0.size; simp at hz0; have hz1 : w.heap.size < w1.heap.size := (by omega); try have hz2 : w.heap.size + 1 < w1.heap.size := (by omega))
    go_ret3
    rw [HV.out]
    exact ⟨rfl, by (repeat (first | with_reducible exact Below.refl _ _ | with_reducible assumption | with_reducible refine up_alloc ?_ _ | with_reducible refine up_drew ?_ | with_reducible refine up_drewN ?_ _ | (with_reducible refine up_set ?_ ?hset _; case hset => first | (simp; done) | (simp; omega) | omega) | with_reducible refine up_trans ?_ (by with_reducible assumption)))⟩
def aaOk (x y u v c x' y' u' v' c' s : Int) : Bool := togB x y u v c x' y' u' v' c' && inB s 0 c
/-- What both sides' ApartAt hands back. -/
def aaV (x y u v c x' y' u' v' c' s : Int) : Value := .tuple #[.int .i64 (if aaOk x y u v c x' y' u' v' c' s then lowA (sqm x y u v x' y' u' v' c s) (c * c) else 0), .int .i64 (if aaOk x y u v c x' y' u' v' c' s then lowB (sqm x y u v x' y' u' v' c s) (c * c) else 0), .bool (aaOk x y u v c x' y' u' v' c' s)]
theorem aaV_ok {x y u v c x' y' u' v' c' s : Int} (h : aaOk x y u v c x' y' u' v' c' s = true) : aaV x y u v c x' y' u' v' c' s = .tuple #[.int .i64 (lowA (sqm x y u v x' y' u' v' c s) (c * c)), .int .i64 (lowB (sqm x y u v x' y' u' v' c s) (c * c)), .bool true] := by
  unfold aaV; rw [h]; rfl
theorem aaV_no {x y u v c x' y' u' v' c' s : Int} (h : aaOk x y u v c x' y' u' v' c' s = false) : aaV x y u v c x' y' u' v' c' s = .tuple #[.int .i64 0, .int .i64 0, .bool false] := by
  unfold aaV; rw [h]; rfl
set_option maxHeartbeats 2000000 in
theorem iApartAt_ok (x y u v x' y' u' v' c s : Int) (h : moveB x y u v c = true) (h' : moveB x' y' u' v' c = true) (hs : 0 ≤ s) (hs' : s ≤ c) (w : World) :
    Calls Try.prog 16 #[.agg #[.int .i64 x, .int .i64 y, .int .i64 u, .int .i64 v, .int .i64 c], .agg #[.int .i64 x', .int .i64 y', .int .i64 u', .int .i64 v', .int .i64 c], .int .i64 s] w
      (Ans w (.tuple #[.int .i64 (lowA (sqm x y u v x' y' u' v' c s) (c * c)), .int .i64 (lowB (sqm x y u v x' y' u' v' c s) (c * c)), .bool true])) := by
  have HT := Lib.hid (goTogether_any x y u v c x' y' u' v' c)
  rw [togB_iff.2 ⟨⟨h, h'⟩, rfl⟩] at HT
  have hin : inB s 0 c = true := inB_iff.2 ⟨hs, hs'⟩
  have HB := sqm_bd h h' hs hs'
  obtain ⟨⟨b1, b2⟩, ⟨b3, b4⟩, ⟨b5, b6⟩, ⟨b7, b8⟩, b9, b10⟩ := HB
  have H := Lib.hid (show sqm x y u v x' y' u' v' c s = (pAt x u c s - pAt x' u' c s) * (pAt x u c s - pAt x' u' c s) + (pAt y v c s - pAt y' v' c s) * (pAt y v c s - pAt y' v' c s) from rfl)
  go_enter Try.func16, Try.ntmps16
  go_wp2_with (first | (go_at_call 34; refine (from0 (HT.out _) (by first | exact hb0 | exact up_alloc hb0 _ | exact up_drew hb0 | exact up_drewN hb0 _ | exact Below.refl _ _)).mono ?_; rintro e w1 ⟨rfl, hb0⟩; obtain ⟨hc0, hf0⟩ := bcell hb0; have hz0 := hb0.size; simp at hz0; have hz1 : w.heap.size < w1.heap.size := (by omega); try have hz2 : w.heap.size + 1 < w1.heap.size := (by omega)) | (go_at_call 44; refine (within_any _ _ _ _).mono ?_; rintro e w1 ⟨rfl, rfl⟩) | (go_at_call 48; refine (from0 (placeAt_any _ _ _ _ _ _ (by with_reducible assumption) hs hs' _) (by first | exact hb0 | exact up_alloc hb0 _ | exact up_drew hb0 | exact up_drewN hb0 _ | exact Below.refl _ _)).mono ?_; rintro e w1 ⟨rfl, hb0⟩; obtain ⟨hc0, hf0⟩ := bcell hb0) | (go_at_call 39; refine (from0 (lowestTerms_any _ _ (by omega) (by omega) (by omega) (by omega) _) (by first | exact hb0 | exact up_alloc hb0 _ | exact up_drew hb0 | exact up_drewN hb0 _ | exact Below.refl _ _)).mono ?_; rintro e w1 ⟨rfl, hb0⟩; obtain ⟨hc0, hf0⟩ := bcell hb0))
  go_ret3
  rw [H.out]
  exact ⟨rfl, by (repeat (first | with_reducible exact Below.refl _ _ | with_reducible assumption | with_reducible refine up_alloc ?_ _ | with_reducible refine up_drew ?_ | with_reducible refine up_drewN ?_ _ | (with_reducible refine up_set ?_ ?hset _; case hset => first | (simp; done) | (simp; omega) | omega) | with_reducible refine up_trans ?_ (by with_reducible assumption)))⟩
set_option maxRecDepth 100000 in
set_option maxHeartbeats 4000000 in
theorem iApartAt_any (x y u v c x' y' u' v' c' s : Int) (w : World) :
    Calls Try.prog 16 #[.agg #[.int .i64 x, .int .i64 y, .int .i64 u, .int .i64 v, .int .i64 c], .agg #[.int .i64 x', .int .i64 y', .int .i64 u', .int .i64 v', .int .i64 c'], .int .i64 s] w (Ans w (aaV x y u v c x' y' u' v' c' s)) := by
  have HT := Lib.hid (goTogether_any x y u v c x' y' u' v' c')
  cases ht : togB x y u v c x' y' u' v' c' with
  | true =>
    rw [ht] at HT
    obtain ⟨⟨hm, hm'⟩, rfl⟩ := togB_iff.1 ht
    cases hi : inB s 0 c with
    | true =>
      rw [aaV_ok (by unfold aaOk; rw [ht, hi]; rfl)]
      obtain ⟨h0, h1⟩ := inB_iff.1 hi
      exact iApartAt_ok x y u v x' y' u' v' c s hm hm' h0 h1 w
    | false =>
      have HV := Lib.hid (aaV_no (x := x) (y := y) (u := u) (v := v) (c := c) (x' := x') (y' := y') (u' := u') (v' := v') (c' := c) (s := s) (by unfold aaOk; rw [ht, hi]; rfl))
      clear ht hm hm'
      go_enter Try.func16, Try.ntmps16
      go_wp2_with (first | (go_at_call 34; refine (from0 (HT.out _) (by first | exact hb0 | exact up_alloc hb0 _ | exact up_drew hb0 | exact up_drewN hb0 _ | exact Below.refl _ _)).mono ?_; rintro e w1 ⟨rfl, hb0⟩; obtain ⟨hc0, hf0⟩ := bcell hb0; have hz0 := hb0.size; simp at hz0; have hz1 : w.heap.size < w1.heap.size := (by omega); try have hz2 : w.heap.size + 1 < w1.heap.size := (by omega)) | (go_at_call 44; refine (within_any _ _ _ _).mono ?_; rintro e w1 ⟨rfl, rfl⟩))
      go_ret3
      rw [HV.out]
      exact ⟨rfl, by (repeat (first | with_reducible exact Below.refl _ _ | with_reducible assumption | with_reducible refine up_alloc ?_ _ | with_reducible refine up_drew ?_ | with_reducible refine up_drewN ?_ _ | (with_reducible refine up_set ?_ ?hset _; case hset => first | (simp; done) | (simp; omega) | omega) | with_reducible refine up_trans ?_ (by with_reducible assumption)))⟩
  | false =>
    rw [ht] at HT
    have HV := Lib.hid (aaV_no (x := x) (y := y) (u := u) (v := v) (c := c) (x' := x') (y' := y') (u' := u') (v' := v') (c' := c') (s := s) (by unfold aaOk; rw [ht]; rfl))
    clear ht
    go_enter Try.func16, Try.ntmps16
    go_wp2_with (go_at_call 34; refine (from0 (HT.out _) (by first | exact hb0 | exact up_alloc hb0 _ | exact up_drew hb0 | exact up_drewN hb0 _ | exact Below.refl _ _)).mono ?_; rintro e w1 ⟨rfl, hb0⟩; obtain ⟨hc0, hf0⟩ := bcell hb0; have hz0 := hb0.size; simp at hz0; have hz1 : w.heap.size < w1.heap.size := (by omega); try have hz2 : w.heap.size + 1 < w1.heap.size := (by omega))
    go_ret3
    rw [HV.out]
    exact ⟨rfl, by (repeat (first | with_reducible exact Below.refl _ _ | with_reducible assumption | with_reducible refine up_alloc ?_ _ | with_reducible refine up_drew ?_ | with_reducible refine up_drewN ?_ _ | (with_reducible refine up_set ?_ ?hset _; case hset => first | (simp; done) | (simp; omega) | omega) | with_reducible refine up_trans ?_ (by with_reducible assumption)))⟩
set_option maxRecDepth 100000 in
set_option maxHeartbeats 4000000 in
theorem sApartAt_any (x y u v c x' y' u' v' c' s : Int) (w : World) :
    Calls Try.prog 17 #[.agg #[.int .i64 x, .int .i64 y, .int .i64 u, .int .i64 v, .int .i64 c], .agg #[.int .i64 x', .int .i64 y', .int .i64 u', .int .i64 v', .int .i64 c'], .int .i64 s] w (Ans w (aaV x y u v c x' y' u' v' c' s)) := by
  have HT := Lib.hid (apGood_any x y u v c x' y' u' v' c')
  cases ht : togB x y u v c x' y' u' v' c' with
  | true =>
    rw [ht] at HT
    obtain ⟨⟨hm, hm'⟩, rfl⟩ := togB_iff.1 ht
    cases hi : inB s 0 c with
    | true =>
      rw [aaV_ok (by unfold aaOk; rw [ht, hi]; rfl)]
      obtain ⟨h0, h1⟩ := inB_iff.1 hi
      exact apartAt_any x y u v x' y' u' v' c s hm hm' h0 h1 w
    | false =>
      have HV := Lib.hid (aaV_no (x := x) (y := y) (u := u) (v := v) (c := c) (x' := x') (y' := y') (u' := u') (v' := v') (c' := c) (s := s) (by unfold aaOk; rw [ht, hi]; rfl))
      clear ht hm hm'
      go_enter Try.func17, Try.ntmps17
      go_wp2_with (first | (go_at_call 36; refine (from0 (HT.out _) (by first | exact hb0 | exact up_alloc hb0 _ | exact up_drew hb0 | exact up_drewN hb0 _ | exact Below.refl _ _)).mono ?_; rintro e w1 ⟨rfl, hb0⟩; obtain ⟨hc0, hf0⟩ := bcell hb0; have hz0 := hb0.size; simp at hz0; have hz1 : w.heap.size < w1.heap.size := (by omega); try have hz2 : w.heap.size + 1 < w1.heap.size := (by omega)) | (go_at_call 52; refine (l1In_any _ _ _ _).mono ?_; rintro e w1 ⟨rfl, rfl⟩))
      go_ret3
      rw [HV.out]
      exact ⟨rfl, by (repeat (first | with_reducible exact Below.refl _ _ | with_reducible assumption | with_reducible refine up_alloc ?_ _ | with_reducible refine up_drew ?_ | with_reducible refine up_drewN ?_ _ | (with_reducible refine up_set ?_ ?hset _; case hset => first | (simp; done) | (simp; omega) | omega) | with_reducible refine up_trans ?_ (by with_reducible assumption)))⟩
  | false =>
    rw [ht] at HT
    have HV := Lib.hid (aaV_no (x := x) (y := y) (u := u) (v := v) (c := c) (x' := x') (y' := y') (u' := u') (v' := v') (c' := c') (s := s) (by unfold aaOk; rw [ht]; rfl))
    clear ht
    go_enter Try.func17, Try.ntmps17
    go_wp2_with (go_at_call 36; refine (from0 (HT.out _) (by first | exact hb0 | exact up_alloc hb0 _ | exact up_drew hb0 | exact up_drewN hb0 _ | exact Below.refl _ _)).mono ?_; rintro e w1 ⟨rfl, hb0⟩; obtain ⟨hc0, hf0⟩ := bcell hb0; have hz0 := hb0.size; simp at hz0; have hz1 : w.heap.size < w1.heap.size := (by omega); try have hz2 : w.heap.size + 1 < w1.heap.size := (by omega))
    go_ret3
    rw [HV.out]
    exact ⟨rfl, by (repeat (first | with_reducible exact Below.refl _ _ | with_reducible assumption | with_reducible refine up_alloc ?_ _ | with_reducible refine up_drew ?_ | with_reducible refine up_drewN ?_ _ | (with_reducible refine up_set ?_ ?hset _; case hset => first | (simp; done) | (simp; omega) | omega) | with_reducible refine up_trans ?_ (by with_reducible assumption)))⟩
end Go.Proofs.Ytljdhicmcmppgaa
