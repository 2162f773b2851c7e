/-
  StayApart on both sides, and the law: for all arguments it returns true. No condition.
-/
import Derived.Test.YtljdhicmcmppgaaRows
import Derived.Test.YtljdhicmcmppgaaBase
import Derived.Test.YtljdhicmcmppgaaSpot
import Derived.Test.YtljdhicmcmppgaaMove
import Derived.Test.YtljdhicmcmppgaaGcd
import Derived.Test.YtljdhicmcmppgaaApart
import Derived.Test.YtljdhicmcmppgaaApartS
import Derived.Test.YtljdhicmcmppgaaOpen
import Derived.Test.YtljdhicmcmppgaaTrod
namespace Go.Proofs.Ytljdhicmcmppgaa
open Go.RowKit Go.ChangeShapes Go.WideShapes Go.Sort

/-- The least square of two moves. -/
def apM (x y u v x' y' u' v' : Int) : Int × Int :=
  ap (x - x') (y - y') (u - u' - (x - x')) (v - v' - (y - y')) ((x - x') * (u - u' - (x - x')) + (y - y') * (v - v' - (y - y'))) ((u - u' - (x - x')) * (u - u' - (x - x')) + (v - v' - (y - y')) * (v - v' - (y - y')))
theorem lowB_pos {a b : Int} (hb : 0 < b) : 1 ≤ lowB a b := by
  unfold lowB
  have hg : 0 < (Int.gcd a b : Int) := by
    have := Int.gcd_pos_of_ne_zero_right a (show b ≠ 0 by omega)
    omega
  have h1 : (b / (Int.gcd a b : Int)) * (Int.gcd a b : Int) = b := Int.ediv_mul_cancel (Int.gcd_dvd_right ..)
  have h2 : 0 ≤ b / (Int.gcd a b : Int) := Int.ediv_nonneg (by omega) (by omega)
  rcases Int.lt_or_eq_of_le h2 with h | h
  · omega
  · rw [← h, Int.zero_mul] at h1; omega
theorem lowA_bd {a b : Int} (ha : 0 ≤ a) : 0 ≤ lowA a b ∧ lowA a b ≤ a := by
  unfold lowA
  exact ⟨Int.ediv_nonneg ha (by omega), Int.ediv_le_self _ ha⟩
theorem lowB_le {a b : Int} (hb : 0 ≤ b) : lowB a b ≤ b := by
  unfold lowB
  exact Int.ediv_le_self _ hb
theorem apM_bd {x y u v c x' y' u' v' c' : Int} (hm : moveB x y u v c = true) (hm' : moveB x' y' u' v' c' = true) :
    (0 ≤ (apM x y u v x' y' u' v').1 ∧ (apM x y u v x' y' u' v').1 ≤ 11838003609600) ∧ 1 ≤ (apM x y u v x' y' u' v').2 ∧ (apM x y u v x' y' u' v').2 ≤ 8359936 := by
  have h := Way.mk' x y u v x' y' u' v'
  have hB := h.bd hm hm'
  have hq := h.sq1
  have hc := cross_bd hB
  have k6 : 0 ≤ (u - u' - (x - x')) * (u - u' - (x - x')) + (v - v' - (y - y')) * (v - v' - (y - y')) ∧ (u - u' - (x - x')) * (u - u' - (x - x')) + (v - v' - (y - y')) * (v - v' - (y - y')) ≤ 8359936 := by
    have := hB.c1; have := hB.c2; have := hB.d1; have := hB.d2; omega
  unfold apM
  generalize (x - x') * (u - u' - (x - x')) + (y - y') * (v - v' - (y - y')) = dot at *
  generalize (u - u' - (x - x')) * (u - u' - (x - x')) + (v - v' - (y - y')) * (v - v' - (y - y')) = sz at *
  generalize x - x' = px at *
  generalize y - y' = py at *
  generalize u - u' - px = vx at *
  generalize v - v' - py = vy at *
  obtain ⟨p1, p2, p3, p4, v1, v2, v3, v4, a1, a2, b1, b2, c1, c2, d1, d2, e1, e2, f1, f2, g1, g2, h1, h2⟩ := hB
  have m1 := mul_bd (a := px + vx) (b := px + vx) (A := 3840) (B := 3840) (by omega) (by omega) (by omega) (by omega)
  have m2 := mul_bd (a := py + vy) (b := py + vy) (A := 2016) (B := 2016) (by omega) (by omega) (by omega) (by omega)
  have n1 := sq_nonneg (px + vx)
  have n2 := sq_nonneg (py + vy)
  unfold ap
  split
  · simp only; omega
  · split
    · simp only; omega
    · have l1 := lowA_bd (a := (px * vy - py * vx) * (px * vy - py * vx)) (b := sz) hc.1
      have l2 := lowB_pos (a := (px * vy - py * vx) * (px * vy - py * vx)) (b := sz) (by omega)
      have l3 := lowB_le (a := (px * vy - py * vx) * (px * vy - py * vx)) (b := sz) (by omega)
      simp only
      omega
/-- Do they stay so far apart? -/
def saB (x y u v x' y' u' v' d : Int) : Bool := decide (d * d * (apM x y u v x' y' u' v').2 ≤ (apM x y u v x' y' u' v').1)
theorem leastApart_m (x y u v c x' y' u' v' c' : Int) (hm : moveB x y u v c = true) (hm' : moveB x' y' u' v' c' = true) (w : World) :
    Calls Try.prog 35 #[.agg #[.int .i64 x, .int .i64 y, .int .i64 u, .int .i64 v, .int .i64 c], .agg #[.int .i64 x', .int .i64 y', .int .i64 u', .int .i64 v', .int .i64 c']] w
      (Ans w (.tuple #[.int .i64 (apM x y u v x' y' u' v').1, .int .i64 (apM x y u v x' y' u' v').2])) := leastApart_any x y u v c x' y' u' v' c' _ _ _ _ _ _ (Way.mk' x y u v x' y' u' v') hm hm' w
theorem apLeast_m (x y u v c x' y' u' v' c' : Int) (hm : moveB x y u v c = true) (hm' : moveB x' y' u' v' c' = true) (w : World) :
    Calls Try.prog 37 #[.agg #[.int .i64 x, .int .i64 y, .int .i64 u, .int .i64 v, .int .i64 c], .agg #[.int .i64 x', .int .i64 y', .int .i64 u', .int .i64 v', .int .i64 c']] w
      (Ans w (.tuple #[.int .i64 (apM x y u v x' y' u' v').1, .int .i64 (apM x y u v x' y' u' v').2])) := apLeast_any x y u v c x' y' u' v' c' _ _ _ _ _ _ (Way.mk' x y u v x' y' u' v') hm hm' w
set_option maxRecDepth 100000 in
set_option maxHeartbeats 1000000 in
theorem stayApart_any (x y u v c x' y' u' v' c' d : Int) (hm : moveB x y u v c = true) (hm' : moveB x' y' u' v' c' = true) (h0 : 0 ≤ d) (h1 : d ≤ 80) (w : World) :
    Calls Try.prog 45 #[.agg #[.int .i64 x, .int .i64 y, .int .i64 u, .int .i64 v, .int .i64 c], .agg #[.int .i64 x', .int .i64 y', .int .i64 u', .int .i64 v', .int .i64 c'], .int .i64 d] w (Ans w (.bool (saB x y u v x' y' u' v' d))) := by
  have HL := Lib.hid (leastApart_m x y u v c x' y' u' v' c' hm hm')
  have hbd := apM_bd hm hm'
  have HS := Lib.hid (show saB x y u v x' y' u' v' d = decide (d * d * (apM x y u v x' y' u' v').2 ≤ (apM x y u v x' y' u' v').1) from rfl)
  generalize apM x y u v x' y' u' v' = r at *
  obtain ⟨p, q⟩ := r
  simp only at hbd HS HL
  obtain ⟨⟨b1, b2⟩, b3, b4⟩ := hbd
  obtain ⟨m1, m2⟩ := mul_bd (a := d) (b := d) (A := 80) (B := 80) (by omega) (by omega) (by omega) (by omega)
  obtain ⟨m3, m4⟩ := mul_bd (a := d * d) (b := q) (A := 6400) (B := 8359936) (by omega) (by omega) (by omega) (by omega)
  clear hm hm'
  go_enter Try.func45, Try.ntmps45
  go_wp2_with (first | (go_at_call 35; refine (from0 (HL.out _) (by first | exact hb0 | exact up_alloc hb0 _ | exact up_drew hb0 | exact up_drewN hb0 _ | exact Below.refl _ _)).mono ?_; rintro e w1 ⟨rfl, hb0⟩; obtain ⟨hc0, hf0⟩ := bcell hb0))
  go_ret
  exact Ans.bool (by rw [HS.out]) (by (repeat (first | with_reducible exact Below.refl _ _ | with_reducible assumption | with_reducible refine up_alloc ?_ _ | with_reducible refine up_drew ?_ | with_reducible refine up_drewN ?_ _ | (with_reducible refine up_set ?_ ?hset _; case hset => first | (simp; done) | (simp; omega) | omega) | with_reducible refine up_trans ?_ (by with_reducible assumption))))
set_option maxRecDepth 100000 in
set_option maxHeartbeats 1000000 in
theorem apStay_any (x y u v c x' y' u' v' c' d : Int) (hm : moveB x y u v c = true) (hm' : moveB x' y' u' v' c' = true) (h0 : 0 ≤ d) (h1 : d ≤ 80) (w : World) :
    Calls Try.prog 47 #[.agg #[.int .i64 x, .int .i64 y, .int .i64 u, .int .i64 v, .int .i64 c], .agg #[.int .i64 x', .int .i64 y', .int .i64 u', .int .i64 v', .int .i64 c'], .int .i64 d] w (Ans w (.bool (saB x y u v x' y' u' v' d))) := by
  have HL := Lib.hid (apLeast_m x y u v c x' y' u' v' c' hm hm')
  have hbd := apM_bd hm hm'
  have HS := Lib.hid (show saB x y u v x' y' u' v' d = decide (d * d * (apM x y u v x' y' u' v').2 ≤ (apM x y u v x' y' u' v').1) from rfl)
  generalize apM x y u v x' y' u' v' = r at *
  obtain ⟨p, q⟩ := r
  simp only at hbd HS HL
  obtain ⟨⟨b1, b2⟩, b3, b4⟩ := hbd
  obtain ⟨m1, m2⟩ := mul_bd (a := d) (b := d) (A := 80) (B := 80) (by omega) (by omega) (by omega) (by omega)
  obtain ⟨m3, m4⟩ := mul_bd (a := d * d) (b := q) (A := 6400) (B := 8359936) (by omega) (by omega) (by omega) (by omega)
  clear hm hm'
  go_enter Try.func47, Try.ntmps47
  go_wp2_with (first | (go_at_call 37; refine (from0 (HL.out _) (by first | exact hb0 | exact up_alloc hb0 _ | exact up_drew hb0 | exact up_drewN hb0 _ | exact Below.refl _ _)).mono ?_; rintro e w1 ⟨rfl, hb0⟩; obtain ⟨hc0, hf0⟩ := bcell hb0))
  go_ret
  exact Ans.bool (by rw [HS.out]) (by (repeat (first | with_reducible exact Below.refl _ _ | with_reducible assumption | with_reducible refine up_alloc ?_ _ | with_reducible refine up_drew ?_ | with_reducible refine up_drewN ?_ _ | (with_reducible refine up_set ?_ ?hset _; case hset => first | (simp; done) | (simp; omega) | omega) | with_reducible refine up_trans ?_ (by with_reducible assumption))))
set_option maxHeartbeats 400000 in
theorem apDist_any (d : Int) (w : World) : Calls Try.prog 46 #[.int .i64 d] w fun e w' => e = .returned (.bool (inB d 0 80)) ∧ w = w' := by
  go_enter Try.func46, Try.ntmps46
  go_wp2_with (go_at_call 52; refine (l1In_any _ _ _ _).mono ?_; rintro e w1 ⟨rfl, rfl⟩)
  go_ret
  exact ⟨rfl, rfl⟩
def saOk (x y u v c x' y' u' v' c' d : Int) : Bool := togB x y u v c x' y' u' v' c' && inB d 0 80
def saV (x y u v c x' y' u' v' c' d : Int) : Value := .tuple #[.bool (saOk x y u v c x' y' u' v' c' d && saB x y u v x' y' u' v' d), .bool (saOk x y u v c x' y' u' v' c' d)]
set_option maxRecDepth 100000 in
set_option maxHeartbeats 1000000 in
theorem iStayApart_any (x y u v c x' y' u' v' c' d : Int) (w : World) :
    Calls Try.prog 11 #[.agg #[.int .i64 x, .int .i64 y, .int .i64 u, .int .i64 v, .int .i64 c], .agg #[.int .i64 x', .int .i64 y', .int .i64 u', .int .i64 v', .int .i64 c'], .int .i64 d] w (Ans w (saV x y u v c x' y' u' v' c' d)) := by
  have HT := Lib.hid (goTogether_any x y u v c x' y' u' v' c')
  cases ht : togB x y u v c x' y' u' v' c' with
  | false =>
    have HV := Lib.hid (show saV x y u v c x' y' u' v' c' d = .tuple #[.bool false, .bool false] by simp [saV, saOk, ht])
    rw [ht] at HT
    clear ht
    go_enter Try.func11, Try.ntmps11
    go_wp2_with (first | (go_at_call 34; refine (from0 (HT.out _) (by first | exact hb0 | exact up_alloc hb0 _ | exact up_drew hb0 | exact up_drewN hb0 _ | exact Below.refl _ _)).mono ?_; rintro e w1 ⟨rfl, hb0⟩; obtain ⟨hc0, hf0⟩ := bcell hb0; have hz0 := hb0.size; simp at hz0; have hz1 : w.heap.size < w1.heap.size := (by omega); try have hz2 : w.heap.size + 1 < w1.heap.size := (by omega)))
    go_ret2
    rw [HV.out]
    exact ⟨rfl, by (repeat (first | with_reducible exact Below.refl _ _ | with_reducible assumption | with_reducible refine up_alloc ?_ _ | with_reducible refine up_drew ?_ | with_reducible refine up_drewN ?_ _ | (with_reducible refine up_set ?_ ?hset _; case hset => first | (simp; done) | (simp; omega) | omega) | with_reducible refine up_trans ?_ (by with_reducible assumption)))⟩
  | true =>
    rw [ht] at HT
    have hm := togB_iff.1 ht
    cases hd : inB d 0 80 with
    | false =>
      have HV := Lib.hid (show saV x y u v c x' y' u' v' c' d = .tuple #[.bool false, .bool false] by simp [saV, saOk, hd])
      clear ht hm
      go_enter Try.func11, Try.ntmps11
      go_wp2_with (first | (go_at_call 34; refine (from0 (HT.out _) (by first | exact hb0 | exact up_alloc hb0 _ | exact up_drew hb0 | exact up_drewN hb0 _ | exact Below.refl _ _)).mono ?_; rintro e w1 ⟨rfl, hb0⟩; obtain ⟨hc0, hf0⟩ := bcell hb0; have hz0 := hb0.size; simp at hz0; have hz1 : w.heap.size < w1.heap.size := (by omega); try have hz2 : w.heap.size + 1 < w1.heap.size := (by omega)) | (go_at_call 44; refine (within_any _ _ _ _).mono ?_; rintro e w1 ⟨rfl, rfl⟩))
      go_ret2
      rw [HV.out]
      exact ⟨rfl, by (repeat (first | with_reducible exact Below.refl _ _ | with_reducible assumption | with_reducible refine up_alloc ?_ _ | with_reducible refine up_drew ?_ | with_reducible refine up_drewN ?_ _ | (with_reducible refine up_set ?_ ?hset _; case hset => first | (simp; done) | (simp; omega) | omega) | with_reducible refine up_trans ?_ (by with_reducible assumption)))⟩
    | true =>
      obtain ⟨d1, d2⟩ := inB_iff.1 hd
      have HV := Lib.hid (show saV x y u v c x' y' u' v' c' d = .tuple #[.bool (saB x y u v x' y' u' v' d), .bool true] by simp [saV, saOk, hd, ht])
      have HL := Lib.hid (stayApart_any x y u v c x' y' u' v' c' d hm.1.1 hm.1.2 d1 d2)
      generalize saB x y u v x' y' u' v' d = q at *
      clear ht hm
      go_enter Try.func11, Try.ntmps11
      go_wp2_with (first | (go_at_call 34; refine (from0 (HT.out _) (by first | exact hb0 | exact up_alloc hb0 _ | exact up_drew hb0 | exact up_drewN hb0 _ | exact Below.refl _ _)).mono ?_; rintro e w1 ⟨rfl, hb0⟩; obtain ⟨hc0, hf0⟩ := bcell hb0; have hz0 := hb0.size; simp at hz0; have hz1 : w.heap.size < w1.heap.size := (by omega); try have hz2 : w.heap.size + 1 < w1.heap.size := (by omega)) | (go_at_call 44; refine (within_any _ _ _ _).mono ?_; rintro e w1 ⟨rfl, rfl⟩) | (go_at_call 45; refine (from0 (HL.out _) (by first | exact hb0 | exact up_alloc hb0 _ | exact up_drew hb0 | exact up_drewN hb0 _ | exact Below.refl _ _)).mono ?_; rintro e w1 ⟨rfl, hb0⟩; obtain ⟨hc0, hf0⟩ := bcell hb0))
      go_ret2
      rw [HV.out]
      exact ⟨rfl, by (repeat (first | with_reducible exact Below.refl _ _ | with_reducible assumption | with_reducible refine up_alloc ?_ _ | with_reducible refine up_drew ?_ | with_reducible refine up_drewN ?_ _ | (with_reducible refine up_set ?_ ?hset _; case hset => first | (simp; done) | (simp; omega) | omega) | with_reducible refine up_trans ?_ (by with_reducible assumption)))⟩
set_option maxRecDepth 100000 in
set_option maxHeartbeats 1000000 in
theorem sStayApart_any (x y u v c x' y' u' v' c' d : Int) (w : World) :
    Calls Try.prog 12 #[.agg #[.int .i64 x, .int .i64 y, .int .i64 u, .int .i64 v, .int .i64 c], .agg #[.int .i64 x', .int .i64 y', .int .i64 u', .int .i64 v', .int .i64 c'], .int .i64 d] w (Ans w (saV x y u v c x' y' u' v' c' d)) := by
  have HT := Lib.hid (apGood_any x y u v c x' y' u' v' c')
  cases ht : togB x y u v c x' y' u' v' c' with
  | false =>
    have HV := Lib.hid (show saV x y u v c x' y' u' v' c' d = .tuple #[.bool false, .bool false] by simp [saV, saOk, ht])
    rw [ht] at HT
    clear ht
    go_enter Try.func12, Try.ntmps12
    go_wp2_with (first | (go_at_call 36; refine (from0 (HT.out _) (by first | exact hb0 | exact up_alloc hb0 _ | exact up_drew hb0 | exact up_drewN hb0 _ | exact Below.refl _ _)).mono ?_; rintro e w1 ⟨rfl, hb0⟩; obtain ⟨hc0, hf0⟩ := bcell hb0; have hz0 := hb0.size; simp at hz0; have hz1 : w.heap.size < w1.heap.size := (by omega); try have hz2 : w.heap.size + 1 < w1.heap.size := (by omega)))
    go_ret2
    rw [HV.out]
    exact ⟨rfl, by (repeat (first | with_reducible exact Below.refl _ _ | with_reducible assumption | with_reducible refine up_alloc ?_ _ | with_reducible refine up_drew ?_ | with_reducible refine up_drewN ?_ _ | (with_reducible refine up_set ?_ ?hset _; case hset => first | (simp; done) | (simp; omega) | omega) | with_reducible refine up_trans ?_ (by with_reducible assumption)))⟩
  | true =>
    rw [ht] at HT
    have hm := togB_iff.1 ht
    cases hd : inB d 0 80 with
    | false =>
      have HV := Lib.hid (show saV x y u v c x' y' u' v' c' d = .tuple #[.bool false, .bool false] by simp [saV, saOk, hd])
      clear ht hm
      go_enter Try.func12, Try.ntmps12
      go_wp2_with (first | (go_at_call 36; refine (from0 (HT.out _) (by first | exact hb0 | exact up_alloc hb0 _ | exact up_drew hb0 | exact up_drewN hb0 _ | exact Below.refl _ _)).mono ?_; rintro e w1 ⟨rfl, hb0⟩; obtain ⟨hc0, hf0⟩ := bcell hb0; have hz0 := hb0.size; simp at hz0; have hz1 : w.heap.size < w1.heap.size := (by omega); try have hz2 : w.heap.size + 1 < w1.heap.size := (by omega)) | (go_at_call 46; refine (apDist_any _ _).mono ?_; rintro e w1 ⟨rfl, rfl⟩))
      go_ret2
      rw [HV.out]
      exact ⟨rfl, by (repeat (first | with_reducible exact Below.refl _ _ | with_reducible assumption | with_reducible refine up_alloc ?_ _ | with_reducible refine up_drew ?_ | with_reducible refine up_drewN ?_ _ | (with_reducible refine up_set ?_ ?hset _; case hset => first | (simp; done) | (simp; omega) | omega) | with_reducible refine up_trans ?_ (by with_reducible assumption)))⟩
    | true =>
      obtain ⟨d1, d2⟩ := inB_iff.1 hd
      have HV := Lib.hid (show saV x y u v c x' y' u' v' c' d = .tuple #[.bool (saB x y u v x' y' u' v' d), .bool true] by simp [saV, saOk, hd, ht])
      have HL := Lib.hid (apStay_any x y u v c x' y' u' v' c' d hm.1.1 hm.1.2 d1 d2)
      generalize saB x y u v x' y' u' v' d = q at *
      clear ht hm
      go_enter Try.func12, Try.ntmps12
      go_wp2_with (first | (go_at_call 36; refine (from0 (HT.out _) (by first | exact hb0 | exact up_alloc hb0 _ | exact up_drew hb0 | exact up_drewN hb0 _ | exact Below.refl _ _)).mono ?_; rintro e w1 ⟨rfl, hb0⟩; obtain ⟨hc0, hf0⟩ := bcell hb0; have hz0 := hb0.size; simp at hz0; have hz1 : w.heap.size < w1.heap.size := (by omega); try have hz2 : w.heap.size + 1 < w1.heap.size := (by omega)) | (go_at_call 46; refine (apDist_any _ _).mono ?_; rintro e w1 ⟨rfl, rfl⟩) | (go_at_call 47; refine (from0 (HL.out _) (by first | exact hb0 | exact up_alloc hb0 _ | exact up_drew hb0 | exact up_drewN hb0 _ | exact Below.refl _ _)).mono ?_; rintro e w1 ⟨rfl, hb0⟩; obtain ⟨hc0, hf0⟩ := bcell hb0))
      go_ret2
      rw [HV.out]
      exact ⟨rfl, by (repeat (first | with_reducible exact Below.refl _ _ | with_reducible assumption | with_reducible refine up_alloc ?_ _ | with_reducible refine up_drew ?_ | with_reducible refine up_drewN ?_ _ | (with_reducible refine up_set ?_ ?hset _; case hset => first | (simp; done) | (simp; omega) | omega) | with_reducible refine up_trans ?_ (by with_reducible assumption)))⟩
end Go.Proofs.Ytljdhicmcmppgaa
