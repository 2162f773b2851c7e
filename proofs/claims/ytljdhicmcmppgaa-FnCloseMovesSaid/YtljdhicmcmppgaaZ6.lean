/- Words and contracts, part 6. -/
import Derived.Test.YtljdhicmcmppgaaRows
import Derived.Deep.QuietTactic
import Derived.BigQuiet
import Derived.RegionTactic
import Derived.ChangeAlike
import Derived.Test.YtljdhicmcmppgaaZ5
namespace Go.Proofs.Ytljdhicmcmppgaa
open Go.RowKit Go.ChangeShapes Go.WideShapes Go.Sort

set_option maxRecDepth 100000 in
set_option maxHeartbeats 1000000 in
theorem qLess_any (a b c d : Int) (ha : 0 ≤ a) (ha' : a ≤ 11838003609600) (hb : 1 ≤ b) (hb' : b ≤ 8359936) (hc : 0 ≤ c) (hc' : c ≤ 11838003609600) (hd : 1 ≤ d) (hd' : d ≤ 8359936) (w : World) :
    Calls Try.prog 19 #[.int .i64 a, .int .i64 b, .int .i64 c, .int .i64 d] w (Ans w (.bool (lessB a b c d))) := by
  have hL := less_quo ha (show 0 < b by omega) hc (show 0 < d by omega)
  have e1 := Int.mul_tdiv_add_tmod a b
  have r1 := Int.tmod_nonneg b ha
  have r2 := Int.tmod_lt_of_pos a (show 0 < b by omega)
  have s1 := Int.tmod_nonneg d hc
  have s2 := Int.tmod_lt_of_pos c (show 0 < d by omega)
  have q1 : 0 ≤ Int.tdiv a b := Int.tdiv_nonneg ha (by omega)
  have q2 : Int.tdiv a b ≤ a := by rw [Int.tdiv_eq_ediv_of_nonneg ha]; exact Int.ediv_le_self _ ha
  have q3 : 0 ≤ Int.tdiv c d := Int.tdiv_nonneg hc (by omega)
  have q4 : Int.tdiv c d ≤ c := by rw [Int.tdiv_eq_ediv_of_nonneg hc]; exact Int.ediv_le_self _ hc
  have m1 := mul_bd (a := Int.tmod a b) (b := d) (A := 8359936) (B := 8359936) (by omega) (by omega) (by omega) (by omega)
  have m2 := mul_bd (a := Int.tmod c d) (b := b) (A := 8359936) (B := 8359936) (by omega) (by omega) (by omega) (by omega)
  have t1 := Int.tmod_eq_emod_of_nonneg (b := b) ha
  have t2 := Int.tmod_eq_emod_of_nonneg (b := d) hc
  rw [t1] at r1 r2 m1 hL
  rw [t2] at s1 s2 m2 hL
  obtain ⟨m1, m3⟩ := m1
  obtain ⟨m2, m4⟩ := m2
  clear t1 t2
  have nb : b ≠ 0 := by omega
  have nd : d ≠ 0 := by omega
  have z1 : IntKind.i64.wrap (Int.tdiv a b) = Int.tdiv a b := IntWalk.i64_in _ (by omega)
  have z2 : IntKind.i64.wrap (Int.tdiv c d) = Int.tdiv c d := IntWalk.i64_in _ (by omega)
  have z3 : IntKind.i64.wrap (a % b) = a % b := IntWalk.i64_in _ (by omega)
  have z4 : IntKind.i64.wrap (c % d) = c % d := IntWalk.i64_in _ (by omega)
  have z5 : IntKind.i64.wrap (a % b * d) = a % b * d := IntWalk.i64_in _ (by omega)
  have z6 : IntKind.i64.wrap (c % d * b) = c % d * b := IntWalk.i64_in _ (by omega)
  by_cases hq : Int.tdiv a b = Int.tdiv c d
  · have HL := Lib.hid (show lessB a b c d = decide (a % b * d < c % d * b) by unfold lessB; exact decide_eq_decide.2 (hL.2.2 hq))
    have hne : (Int.tdiv a b != Int.tdiv c d) = false := by simp [hq]
    clear hL e1 hq
    go_enter Try.func19, Try.ntmps19
    go_wp2_with fail
    go_quiet (fail)
    go_wp2_with fail
    go_quiet (fail)
    go_wp2_with fail
    go_ret
    exact Ans.bool (by rw [HL.out]) (by (repeat (first | with_reducible exact Below.refl _ _ | with_reducible assumption | with_reducible refine up_alloc ?_ _ | with_reducible refine up_drew ?_ | with_reducible refine up_drewN ?_ _ | (with_reducible refine up_set ?_ ?hset _; case hset => first | (simp; done) | (simp; omega) | omega) | with_reducible refine up_trans ?_ (by with_reducible assumption))))
  · have hne : (Int.tdiv a b != Int.tdiv c d) = true := by simp [hq]
    have HL := Lib.hid (show lessB a b c d = decide (Int.tdiv a b < Int.tdiv c d) by
      unfold lessB
      refine decide_eq_decide.2 ⟨fun h => ?_, hL.1⟩
      rcases Int.lt_or_gt_of_ne hq with h' | h'
      · exact h'
      · exact absurd h (hL.2.1 h'))
    clear hL e1 hq
    go_enter Try.func19, Try.ntmps19
    go_wp2_with fail
    go_quiet (fail)
    go_wp2_with fail
    go_quiet (fail)
    go_wp2_with fail
    go_ret
    exact Ans.bool (by rw [HL.out]) (by (repeat (first | with_reducible exact Below.refl _ _ | with_reducible assumption | with_reducible refine up_alloc ?_ _ | with_reducible refine up_drew ?_ | with_reducible refine up_drewN ?_ _ | (with_reducible refine up_set ?_ ?hset _; case hset => first | (simp; done) | (simp; omega) | omega) | with_reducible refine up_trans ?_ (by with_reducible assumption))))
/-- Is k among the first n numbers? -/
def hasN (X : Nat → Int) (k : Int) (n : Nat) : Bool := hasB (fun i => X i == k) n
set_option maxHeartbeats 1000000 in
theorem qHas_any (v : Value) (n : Nat) (X : Nat → Int) (k : Int) (w : World) (h : Ints w v n X) (hn : n ≤ 1048576) :
    Calls Try.prog 20 #[v, .int .i64 k] w (Ans w (.bool (hasN X k n))) := by
  obtain ⟨A, c, rfl, hnc, hrow⟩ := h
  go_enter Try.func20, Try.ntmps20
  go_wp2_with fail
  go_loopw [9] (fun i wr => ∃ t : Nat, t ≤ n ∧ i = .int .i64 t ∧ Below w.heap.size w wr ∧ ∀ j, j < t → X j ≠ k) (fun i _ => n - (intOf i).toNat)
  case atStart => exact ⟨0, by omega, rfl, Below.refl _ _, fun j hj => by omega⟩
  case round =>
    obtain ⟨t, ht, rfl, hb, hno⟩ := hrel
    have HNO := Lib.hid hno
    clear hno
    by_cases hlt : t < n
    · obtain ⟨b, o, rfl, hr⟩ := hrow (by omega)
      have c0 := up_keep hb (hr t hlt)
      clear hr hrow
      have jt : (t : Int) < (n : Int) := by omega
      by_cases he : X t = k
      · have hq : (X t == k) = true := by simp [he]
        have HE := Lib.hid (show hasN X k n = true from hasB_iff.2 ⟨t, hlt, hq⟩)
        clear he
        generalize X t = xt at *
        go_wp2_with fail
        go_ret
        exact Ans.bool HE.out.symm hb
      · have hq : (X t == k) = false := by simp [he]
        have HN2 := Lib.hid (show ∀ j, j < t + 1 → X j ≠ k from fun j hj => by
          by_cases e : j = t
          · subst e; exact he
          · exact HNO.out j (by omega))
        clear he
        generalize X t = xt at *
        go_wp2_with fail
        go_roundw
        case rel => exact ⟨t + 1, by omega, by go_num, hb, HN2.out⟩
        case measure => simp [intOf]; omega
    · have e : t = n := by omega
      subst e
      have HE := Lib.hid (show hasN X k t = false by
        cases hh : hasN X k t with
        | false => rfl
        | true =>
          obtain ⟨i, hi, e⟩ := hasB_iff.1 hh
          exact absurd (by simpa using e) (HNO.out i hi))
      go_wp2_with fail
      go_ret
      exact Ans.bool HE.out.symm hb
set_option maxRecDepth 100000 in
set_option maxHeartbeats 4000000 in
theorem iClosestTime_ok (x y u v c x' y' u' v' px py vx vy dot sz : Int) (h : Way x y u v x' y' u' v' px py vx vy dot sz) (hm : moveB x y u v c = true) (hm' : moveB x' y' u' v' c = true) (w : World) :
    Calls Try.prog 8 #[.agg #[.int .i64 x, .int .i64 y, .int .i64 u, .int .i64 v, .int .i64 c], .agg #[.int .i64 x', .int .i64 y', .int .i64 u', .int .i64 v', .int .i64 c]] w (Ans w (.tuple #[.int .i64 (ctA dot sz c), .int .i64 (ctZ dot sz c), .bool true])) := by
  have HT := Lib.hid (goTogether_any x y u v c x' y' u' v' c)
  rw [togB_iff.2 ⟨⟨hm, hm'⟩, rfl⟩] at HT
  have HB := Lib.hid (between_any x y u v c x' y' u' v' c px py vx vy dot sz h hm hm')
  obtain ⟨p1, p2, p3, p4, v1, v2, v3, v4, a1, a2, b1, b2, c1, c2, d1, d2, e1, e2, f1, f2, g1, g2, h1, h2⟩ := h.bd hm hm'
  have hc := (moveB_iff.1 hm).2
  have k5 := h.k5
  have k6 := h.k6
  have dlo : -4179968 ≤ dot ∧ dot ≤ 4179968 := by omega
  have slo : 0 ≤ sz ∧ sz ≤ 8359936 := by omega
  have mb := mul_bd (a := -dot) (b := c) (A := 4179968) (B := 64) (by omega) (by omega) (by omega) (by omega)
  clear k5 k6 h hm hm' p1 p2 p3 p4 v1 v2 v3 v4 a1 a2 b1 b2 c1 c2 d1 d2 e1 e2 f1 f2 g1 g2 h1 h2
  have HA := Lib.hid (show ctA dot sz c = if 0 ≤ dot then 0 else if sz ≤ -dot then c else lowA (-dot * c) sz from rfl)
  have HZ := Lib.hid (show ctZ dot sz c = if 0 ≤ dot then 1 else if sz ≤ -dot then 1 else lowB (-dot * c) sz from rfl)
  obtain ⟨m1, m2⟩ := mb
  by_cases hd : 0 ≤ dot
  · have jd : dot ≥ 0 := hd
    go_enter Try.func8, Try.ntmps8
    go_wp2_with fail
    generalize hWx : World.alloc (World.alloc w _) _ = W0
    have hb0 : Below w.heap.size w W0 := by subst hWx; exact (below_alloc _ _).trans ((below_alloc _ _).mono (by simp))
    have hz0 : w.heap.size + 1 < W0.heap.size := by subst hWx; simp
    have m0 : MC W0 w.heap.size x y u v c := by subst hWx; exact ⟨by simp [go_sem], by simp [go_sem], by simp [go_sem], by simp [go_sem], by simp [go_sem]⟩
    have m1 : MC W0 (w.heap.size + 1) x' y' u' v' c := by subst hWx; exact ⟨by simp [go_sem], by simp [go_sem], by simp [go_sem], by simp [go_sem], by simp [go_sem]⟩
    clear hWx
    refine (HT.out _).mono ?_
    rintro e w1 ⟨rfl, hb1⟩
    have hz1 := hb1.size
    replace m0 := m0.up hb1
    replace m1 := m1.up hb1
    obtain ⟨i0, i1, i2, i3, i4⟩ := id m0
    obtain ⟨j0, j1, j2, j3, j4⟩ := id m1
    go_wp2_with fail
    refine (HB.out _).mono ?_
    rintro e w2 ⟨rfl, hb2⟩
    have hz2 := hb2.size
    have hz3 : w.heap.size < w2.heap.size := by omega
    have i4 := (m0.up hb2).c4
    clear i0 i1 i2 i3 j0 j1 j2 j3 j4 m0 m1
    go_wp2_with fail
    go_ret3
    rw [HA.out, HZ.out, if_pos hd, if_pos hd]
    exact ⟨rfl, up_trans (up_trans (up_trans hb0 hb1) hb2) (by (repeat (first | with_reducible exact Below.refl _ _ | with_reducible assumption | with_reducible refine up_alloc ?_ _ | with_reducible refine up_drew ?_ | with_reducible refine up_drewN ?_ _ | (with_reducible refine up_set ?_ ?hset _; case hset => first | (simp; done) | (simp; omega) | omega) | with_reducible refine up_trans ?_ (by with_reducible assumption))))⟩
  · by_cases hs : sz ≤ -dot
    · have jd : ¬ dot ≥ 0 := by omega
      have js : -dot ≥ sz := hs
      go_enter Try.func8, Try.ntmps8
      go_wp2_with fail
      generalize hWx : World.alloc (World.alloc w _) _ = W0
      have hb0 : Below w.heap.size w W0 := by subst hWx; exact (below_alloc _ _).trans ((below_alloc _ _).mono (by simp))
      have hz0 : w.heap.size + 1 < W0.heap.size := by subst hWx; simp
      have m0 : MC W0 w.heap.size x y u v c := by subst hWx; exact ⟨by simp [go_sem], by simp [go_sem], by simp [go_sem], by simp [go_sem], by simp [go_sem]⟩
      have m1 : MC W0 (w.heap.size + 1) x' y' u' v' c := by subst hWx; exact ⟨by simp [go_sem], by simp [go_sem], by simp [go_sem], by simp [go_sem], by simp [go_sem]⟩
      clear hWx
      refine (HT.out _).mono ?_
      rintro e w1 ⟨rfl, hb1⟩
      have hz1 := hb1.size
      replace m0 := m0.up hb1
      replace m1 := m1.up hb1
      obtain ⟨i0, i1, i2, i3, i4⟩ := id m0
      obtain ⟨j0, j1, j2, j3, j4⟩ := id m1
      go_wp2_with fail
      refine (HB.out _).mono ?_
      rintro e w2 ⟨rfl, hb2⟩
      have hz2 := hb2.size
      have hz3 : w.heap.size < w2.heap.size := by omega
      have i4 := (m0.up hb2).c4
      clear i0 i1 i2 i3 j0 j1 j2 j3 j4 m0 m1
      go_wp2_with fail
      go_ret3
      rw [HA.out, HZ.out, if_neg (by omega : ¬ 0 ≤ dot), if_neg (by omega : ¬ 0 ≤ dot), if_pos hs, if_pos hs]
      exact ⟨rfl, up_trans (up_trans (up_trans hb0 hb1) hb2) (by (repeat (first | with_reducible exact Below.refl _ _ | with_reducible assumption | with_reducible refine up_alloc ?_ _ | with_reducible refine up_drew ?_ | with_reducible refine up_drewN ?_ _ | (with_reducible refine up_set ?_ ?hset _; case hset => first | (simp; done) | (simp; omega) | omega) | with_reducible refine up_trans ?_ (by with_reducible assumption))))⟩
    · have jd : ¬ dot ≥ 0 := by omega
      have js : ¬ -dot ≥ sz := by omega
      have hn : 0 ≤ -dot * c := Int.mul_nonneg (by omega) (by omega)
      have HLo := Lib.hid (lowestTerms_any (-dot * c) sz hn (by omega) (by omega) (by omega))
      go_enter Try.func8, Try.ntmps8
      go_wp2_with fail
      generalize hWx : World.alloc (World.alloc w _) _ = W0
      have hb0 : Below w.heap.size w W0 := by subst hWx; exact (below_alloc _ _).trans ((below_alloc _ _).mono (by simp))
      have hz0 : w.heap.size + 1 < W0.heap.size := by subst hWx; simp
      have m0 : MC W0 w.heap.size x y u v c := by subst hWx; exact ⟨by simp [go_sem], by simp [go_sem], by simp [go_sem], by simp [go_sem], by simp [go_sem]⟩
      have m1 : MC W0 (w.heap.size + 1) x' y' u' v' c := by subst hWx; exact ⟨by simp [go_sem], by simp [go_sem], by simp [go_sem], by simp [go_sem], by simp [go_sem]⟩
      clear hWx
      refine (HT.out _).mono ?_
      rintro e w1 ⟨rfl, hb1⟩
      have hz1 := hb1.size
      replace m0 := m0.up hb1
      replace m1 := m1.up hb1
      obtain ⟨i0, i1, i2, i3, i4⟩ := id m0
      obtain ⟨j0, j1, j2, j3, j4⟩ := id m1
      go_wp2_with fail
      refine (HB.out _).mono ?_
      rintro e w2 ⟨rfl, hb2⟩
      have hz2 := hb2.size
      have hz3 : w.heap.size < w2.heap.size := by omega
      have i4 := (m0.up hb2).c4
      clear i0 i1 i2 i3 j0 j1 j2 j3 j4 m0 m1
      go_wp2_with fail
      refine (HLo.out _).mono ?_
      rintro e w3 ⟨rfl, hb3⟩
      go_wp2_with fail
      go_ret3
      rw [HA.out, HZ.out, if_neg (by omega : ¬ 0 ≤ dot), if_neg (by omega : ¬ 0 ≤ dot), if_neg (by omega : ¬ sz ≤ -dot), if_neg (by omega : ¬ sz ≤ -dot)]
      exact ⟨rfl, up_trans (up_trans (up_trans hb0 hb1) hb2) (up_trans (by (repeat (first | with_reducible exact Below.refl _ _ | with_reducible assumption | with_reducible refine up_alloc ?_ _ | with_reducible refine up_drew ?_ | with_reducible refine up_drewN ?_ _ | (with_reducible refine up_set ?_ ?hset _; case hset => first | (simp; done) | (simp; omega) | omega) | with_reducible refine up_trans ?_ (by with_reducible assumption)))) hb3)⟩
end Go.Proofs.Ytljdhicmcmppgaa
namespace Go.Proofs.Ytljdhicmcmppgaa
open Go.RowKit Go.ChangeShapes Go.WideShapes Go.Sort

set_option maxRecDepth 100000 in
set_option maxHeartbeats 4000000 in
theorem sClosestTime_ok (x y u v c x' y' u' v' px py vx vy dot sz : Int) (h : Way x y u v x' y' u' v' px py vx vy dot sz) (hm : moveB x y u v c = true) (hm' : moveB x' y' u' v' c = true) (w : World) :
    Calls Try.prog 9 #[.agg #[.int .i64 x, .int .i64 y, .int .i64 u, .int .i64 v, .int .i64 c], .agg #[.int .i64 x', .int .i64 y', .int .i64 u', .int .i64 v', .int .i64 c]] w (Ans w (.tuple #[.int .i64 (ctA dot sz c), .int .i64 (ctZ dot sz c), .bool true])) := by
  have HT := Lib.hid (apGood_any x y u v c x' y' u' v' c)
  rw [togB_iff.2 ⟨⟨hm, hm'⟩, rfl⟩] at HT
  obtain ⟨qx, qy, hq⟩ : ∃ qx qy, WayQ u v u' v' px py vx vy qx qy := ⟨_, _, h.q⟩
  have HE := Lib.hid (apEnds_any x y u v c x' y' u' v' c px py vx vy dot sz qx qy h hq hm hm')
  have HI := Lib.hid (apInner_any x y u v c x' y' u' v' c px py vx vy dot sz qx qy h hq hm hm')
  have hB := h.bd hm hm'
  have hqq : qx * qx + qy * qy = px * px + py * py + 2 * dot + sz := by rw [h.k5, h.k6, hq.q3, hq.q4]; grind
  obtain ⟨p1, p2, p3, p4, v1, v2, v3, v4, a1, a2, b1, b2, c1, c2, d1, d2, e1, e2, f1, f2, g1, g2, h1, h2⟩ := hB
  have hc := (moveB_iff.1 hm).2
  rw [moveB_iff, spotB_iff, spotB_iff] at hm hm'
  have r1 : -1280 ≤ qx := by rw [hq.q1]; omega
  have r2 : qx ≤ 1280 := by rw [hq.q1]; omega
  have r3 : -672 ≤ qy := by rw [hq.q2]; omega
  have r4 : qy ≤ 672 := by rw [hq.q2]; omega
  obtain ⟨s5, s6⟩ := mul_bd r1 r2 r1 r2
  obtain ⟨s7, s8⟩ := mul_bd r3 r4 r3 r4
  obtain ⟨s1, s2⟩ := mul_bd p1 p2 p1 p2
  obtain ⟨s3, s4⟩ := mul_bd p3 p4 p3 p4
  have D1 : -4179968 ≤ dot ∧ dot ≤ 4179968 := by rw [h.k5]; omega
  have S1 : 0 ≤ sz ∧ sz ≤ 8359936 := by rw [h.k6]; omega
  have mb := mul_bd (a := -dot) (b := c) (A := 4179968) (B := 64) (by omega) (by omega) (by omega) (by omega)
  obtain ⟨D1, D2⟩ := D1
  obtain ⟨S1, S2⟩ := S1
  clear h hq hm hm'
  have HA := Lib.hid (show ctA dot sz c = if 0 ≤ dot then 0 else if sz ≤ -dot then c else lowA (-dot * c) sz from rfl)
  have HZ := Lib.hid (show ctZ dot sz c = if 0 ≤ dot then 1 else if sz ≤ -dot then 1 else lowB (-dot * c) sz from rfl)
  obtain ⟨m1, m2⟩ := mb
  by_cases hi : 0 < -dot ∧ -dot < sz
  · have hD : inD dot sz = sz := if_pos hi
    have hN : inN dot sz = -dot := if_pos hi
    rw [hD, hN] at HI
    obtain ⟨hi1, hi2⟩ := hi
    have hs : 0 < sz := by omega
    have hn : 0 ≤ -dot * c := Int.mul_nonneg (by omega) (by omega)
    have HLo := Lib.hid (mvPart_any (-dot * c) sz hn (by omega) (by omega) (by omega))
    clear hD hN hqq
    go_enter Try.func9, Try.ntmps9
    go_wp2_with (first | (go_at_call 36; refine (from0 (HT.out _) (by first | exact hb0 | exact up_alloc hb0 _ | exact up_drew hb0 | exact up_drewN hb0 _ | exact Below.refl _ _)).mono ?_; rintro e w1 ⟨rfl, hb0⟩; obtain ⟨hc0, hf0⟩ := bcell hb0; have hz0 := hb0.size; simp at hz0; have hz1 : w.heap.size < w1.heap.size := (by omega); try have hz2 : w.heap.size + 1 < w1.heap.size := (by omega)) | (go_at_call 40; refine (from0 (HI.out _) (by first | exact hb0 | exact up_alloc hb0 _ | exact up_drew hb0 | exact up_drewN hb0 _ | exact Below.refl _ _)).mono ?_; rintro e w1 ⟨rfl, hb0⟩; obtain ⟨hc0, hf0⟩ := bcell hb0) | (go_at_call 41; refine (from0 (HLo.out _) (by first | exact hb0 | exact up_alloc hb0 _ | exact up_drew hb0 | exact up_drewN hb0 _ | exact Below.refl _ _)).mono ?_; rintro e w1 ⟨rfl, hb0⟩; obtain ⟨hc0, hf0⟩ := bcell hb0))
    go_ret3
    rw [HA.out, HZ.out, if_neg (by omega : ¬ 0 ≤ dot), if_neg (by omega : ¬ 0 ≤ dot), if_neg (by omega : ¬ sz ≤ -dot), if_neg (by omega : ¬ sz ≤ -dot)]
    exact ⟨rfl, by (repeat (first | with_reducible exact Below.refl _ _ | with_reducible assumption | with_reducible refine up_alloc ?_ _ | with_reducible refine up_drew ?_ | with_reducible refine up_drewN ?_ _ | (with_reducible refine up_set ?_ ?hset _; case hset => first | (simp; done) | (simp; omega) | omega) | with_reducible refine up_trans ?_ (by with_reducible assumption)))⟩
  · have hD : inD dot sz = 0 := if_neg hi
    have hN : inN dot sz = 0 := if_neg hi
    rw [hD, hN] at HI
    have HI2 := Lib.hid (show ¬ (0 < -dot ∧ -dot < sz) from hi)
    clear hD hN hi
    by_cases hlt : qx * qx + qy * qy < px * px + py * py
    · go_enter Try.func9, Try.ntmps9
      go_wp2_with (first | (go_at_call 36; refine (from0 (HT.out _) (by first | exact hb0 | exact up_alloc hb0 _ | exact up_drew hb0 | exact up_drewN hb0 _ | exact Below.refl _ _)).mono ?_; rintro e w1 ⟨rfl, hb0⟩; obtain ⟨hc0, hf0⟩ := bcell hb0; have hz0 := hb0.size; simp at hz0; have hz1 : w.heap.size < w1.heap.size := (by omega); try have hz2 : w.heap.size + 1 < w1.heap.size := (by omega)) | (go_at_call 40; refine (from0 (HI.out _) (by first | exact hb0 | exact up_alloc hb0 _ | exact up_drew hb0 | exact up_drewN hb0 _ | exact Below.refl _ _)).mono ?_; rintro e w1 ⟨rfl, hb0⟩; obtain ⟨hc0, hf0⟩ := bcell hb0) | (go_at_call 42; refine (from0 (HE.out _) (by first | exact hb0 | exact up_alloc hb0 _ | exact up_drew hb0 | exact up_drewN hb0 _ | exact Below.refl _ _)).mono ?_; rintro e w1 ⟨rfl, hb0⟩; obtain ⟨hc0, hf0⟩ := bcell hb0))
      go_ret3
      have hi := HI2.out
      rw [HA.out, HZ.out, if_neg (by omega : ¬ 0 ≤ dot), if_neg (by omega : ¬ 0 ≤ dot), if_pos (by omega : sz ≤ -dot), if_pos (by omega : sz ≤ -dot)]
      exact ⟨rfl, by (repeat (first | with_reducible exact Below.refl _ _ | with_reducible assumption | with_reducible refine up_alloc ?_ _ | with_reducible refine up_drew ?_ | with_reducible refine up_drewN ?_ _ | (with_reducible refine up_set ?_ ?hset _; case hset => first | (simp; done) | (simp; omega) | omega) | with_reducible refine up_trans ?_ (by with_reducible assumption)))⟩
    · go_enter Try.func9, Try.ntmps9
      go_wp2_with (first | (go_at_call 36; refine (from0 (HT.out _) (by first | exact hb0 | exact up_alloc hb0 _ | exact up_drew hb0 | exact up_drewN hb0 _ | exact Below.refl _ _)).mono ?_; rintro e w1 ⟨rfl, hb0⟩; obtain ⟨hc0, hf0⟩ := bcell hb0; have hz0 := hb0.size; simp at hz0; have hz1 : w.heap.size < w1.heap.size := (by omega); try have hz2 : w.heap.size + 1 < w1.heap.size := (by omega)) | (go_at_call 40; refine (from0 (HI.out _) (by first | exact hb0 | exact up_alloc hb0 _ | exact up_drew hb0 | exact up_drewN hb0 _ | exact Below.refl _ _)).mono ?_; rintro e w1 ⟨rfl, hb0⟩; obtain ⟨hc0, hf0⟩ := bcell hb0) | (go_at_call 42; refine (from0 (HE.out _) (by first | exact hb0 | exact up_alloc hb0 _ | exact up_drew hb0 | exact up_drewN hb0 _ | exact Below.refl _ _)).mono ?_; rintro e w1 ⟨rfl, hb0⟩; obtain ⟨hc0, hf0⟩ := bcell hb0))
      go_ret3
      have hi := HI2.out
      rw [HA.out, HZ.out, if_pos (by omega : 0 ≤ dot), if_pos (by omega : 0 ≤ dot)]
      exact ⟨rfl, by (repeat (first | with_reducible exact Below.refl _ _ | with_reducible assumption | with_reducible refine up_alloc ?_ _ | with_reducible refine up_drew ?_ | with_reducible refine up_drewN ?_ _ | (with_reducible refine up_set ?_ ?hset _; case hset => first | (simp; done) | (simp; omega) | omega) | with_reducible refine up_trans ?_ (by with_reducible assumption)))⟩
/-- What both sides' ClosestTime hands back. -/
def ctM (x y u v x' y' u' v' c : Int) : Int × Int := (ctA ((x - x') * (u - u' - (x - x')) + (y - y') * (v - v' - (y - y'))) ((u - u' - (x - x')) * (u - u' - (x - x')) + (v - v' - (y - y')) * (v - v' - (y - y'))) c, ctZ ((x - x') * (u - u' - (x - x')) + (y - y') * (v - v' - (y - y'))) ((u - u' - (x - x')) * (u - u' - (x - x')) + (v - v' - (y - y')) * (v - v' - (y - y'))) c)
def ctV (x y u v c x' y' u' v' c' : Int) : Value := .tuple #[.int .i64 (if togB x y u v c x' y' u' v' c' then (ctM x y u v x' y' u' v' c).1 else 0), .int .i64 (if togB x y u v c x' y' u' v' c' then (ctM x y u v x' y' u' v' c).2 else 0), .bool (togB x y u v c x' y' u' v' c')]
theorem lapV_eq (x y u v c x' y' u' v' c' : Int) : lapV x y u v c x' y' u' v' c' = .tuple #[.int .i64 (if togB x y u v c x' y' u' v' c' then (apM x y u v x' y' u' v').1 else 0), .int .i64 (if togB x y u v c x' y' u' v' c' then (apM x y u v x' y' u' v').2 else 0), .bool (togB x y u v c x' y' u' v' c')] := by
  unfold lapV
  cases togB x y u v c x' y' u' v' c' <;> rfl
set_option maxRecDepth 100000 in
set_option maxHeartbeats 4000000 in
theorem iClosestTime_any (x y u v c x' y' u' v' c' : Int) (w : World) :
    Calls Try.prog 8 #[.agg #[.int .i64 x, .int .i64 y, .int .i64 u, .int .i64 v, .int .i64 c], .agg #[.int .i64 x', .int .i64 y', .int .i64 u', .int .i64 v', .int .i64 c']] w (Ans w (ctV x y u v c x' y' u' v' c')) := by
  cases ht : togB x y u v c x' y' u' v' c' with
  | true =>
    obtain ⟨⟨hm, hm'⟩, rfl⟩ := togB_iff.1 ht
    rw [show ctV x y u v c x' y' u' v' c = .tuple #[.int .i64 (ctA ((x - x') * (u - u' - (x - x')) + (y - y') * (v - v' - (y - y'))) ((u - u' - (x - x')) * (u - u' - (x - x')) + (v - v' - (y - y')) * (v - v' - (y - y'))) c), .int .i64 (ctZ ((x - x') * (u - u' - (x - x')) + (y - y') * (v - v' - (y - y'))) ((u - u' - (x - x')) * (u - u' - (x - x')) + (v - v' - (y - y')) * (v - v' - (y - y'))) c), .bool true] by unfold ctV; rw [ht]; rfl]
    exact iClosestTime_ok x y u v c x' y' u' v' _ _ _ _ _ _ (Way.mk' x y u v x' y' u' v') hm hm' w
  | false =>
    have HT := Lib.hid (goTogether_any x y u v c x' y' u' v' c')
    rw [ht] at HT
    have HV := Lib.hid (show ctV x y u v c x' y' u' v' c' = .tuple #[.int .i64 0, .int .i64 0, .bool false] by unfold ctV; rw [ht]; rfl)
    clear ht
    go_enter Try.func8, Try.ntmps8
    go_wp2_with (go_at_call 34; refine (from0 (HT.out _) (by first | exact hb0 | exact up_alloc hb0 _ | exact up_drew hb0 | exact up_drewN hb0 _ | exact Below.refl _ _)).mono ?_; rintro e w1 ⟨rfl, hb0⟩; obtain ⟨hc0, hf0⟩ := bcell hb0; have hz0 := hb0.size; simp at hz0; have hz1 : w.heap.size < w1.heap.size := (by omega); try have hz2 : w.heap.size + 1 < w1.heap.size := (by omega))
    go_ret3
    rw [HV.out]
    exact ⟨rfl, by (repeat (first | with_reducible exact Below.refl _ _ | with_reducible assumption | with_reducible refine up_alloc ?_ _ | with_reducible refine up_drew ?_ | with_reducible refine up_drewN ?_ _ | (with_reducible refine up_set ?_ ?hset _; case hset => first | (simp; done) | (simp; omega) | omega) | with_reducible refine up_trans ?_ (by with_reducible assumption)))⟩
set_option maxRecDepth 100000 in
set_option maxHeartbeats 4000000 in
theorem sClosestTime_any (x y u v c x' y' u' v' c' : Int) (w : World) :
    Calls Try.prog 9 #[.agg #[.int .i64 x, .int .i64 y, .int .i64 u, .int .i64 v, .int .i64 c], .agg #[.int .i64 x', .int .i64 y', .int .i64 u', .int .i64 v', .int .i64 c']] w (Ans w (ctV x y u v c x' y' u' v' c')) := by
  cases ht : togB x y u v c x' y' u' v' c' with
  | true =>
    obtain ⟨⟨hm, hm'⟩, rfl⟩ := togB_iff.1 ht
    rw [show ctV x y u v c x' y' u' v' c = .tuple #[.int .i64 (ctA ((x - x') * (u - u' - (x - x')) + (y - y') * (v - v' - (y - y'))) ((u - u' - (x - x')) * (u - u' - (x - x')) + (v - v' - (y - y')) * (v - v' - (y - y'))) c), .int .i64 (ctZ ((x - x') * (u - u' - (x - x')) + (y - y') * (v - v' - (y - y'))) ((u - u' - (x - x')) * (u - u' - (x - x')) + (v - v' - (y - y')) * (v - v' - (y - y'))) c), .bool true] by unfold ctV; rw [ht]; rfl]
    exact sClosestTime_ok x y u v c x' y' u' v' _ _ _ _ _ _ (Way.mk' x y u v x' y' u' v') hm hm' w
  | false =>
    have HT := Lib.hid (apGood_any x y u v c x' y' u' v' c')
    rw [ht] at HT
    have HV := Lib.hid (show ctV x y u v c x' y' u' v' c' = .tuple #[.int .i64 0, .int .i64 0, .bool false] by unfold ctV; rw [ht]; rfl)
    clear ht
    go_enter Try.func9, Try.ntmps9
    go_wp2_with (go_at_call 36; refine (from0 (HT.out _) (by first | exact hb0 | exact up_alloc hb0 _ | exact up_drew hb0 | exact up_drewN hb0 _ | exact Below.refl _ _)).mono ?_; rintro e w1 ⟨rfl, hb0⟩; obtain ⟨hc0, hf0⟩ := bcell hb0; have hz0 := hb0.size; simp at hz0; have hz1 : w.heap.size < w1.heap.size := (by omega); try have hz2 : w.heap.size + 1 < w1.heap.size := (by omega))
    go_ret3
    rw [HV.out]
    exact ⟨rfl, by (repeat (first | with_reducible exact Below.refl _ _ | with_reducible assumption | with_reducible refine up_alloc ?_ _ | with_reducible refine up_drew ?_ | with_reducible refine up_drewN ?_ _ | (with_reducible refine up_set ?_ ?hset _; case hset => first | (simp; done) | (simp; omega) | omega) | with_reducible refine up_trans ?_ (by with_reducible assumption)))⟩
def aaOk (x y u v c x' y' u' v' c' s : Int) : Bool := togB x y u v c x' y' u' v' c' && inB s 0 c
/-- What both sides' ApartAt hands back. -/
def aaV (x y u v c x' y' u' v' c' s : Int) : Value := .tuple #[.int .i64 (if aaOk x y u v c x' y' u' v' c' s then lowA (sqm x y u v x' y' u' v' c s) (c * c) else 0), .int .i64 (if aaOk x y u v c x' y' u' v' c' s then lowB (sqm x y u v x' y' u' v' c s) (c * c) else 0), .bool (aaOk x y u v c x' y' u' v' c' s)]
theorem aaV_ok {x y u v c x' y' u' v' c' s : Int} (h : aaOk x y u v c x' y' u' v' c' s = true) : aaV x y u v c x' y' u' v' c' s = .tuple #[.int .i64 (lowA (sqm x y u v x' y' u' v' c s) (c * c)), .int .i64 (lowB (sqm x y u v x' y' u' v' c s) (c * c)), .bool true] := by
  unfold aaV; rw [h]; rfl
theorem aaV_no {x y u v c x' y' u' v' c' s : Int} (h : aaOk x y u v c x' y' u' v' c' s = false) : aaV x y u v c x' y' u' v' c' s = .tuple #[.int .i64 0, .int .i64 0, .bool false] := by
  unfold aaV; rw [h]; rfl
set_option maxHeartbeats 2000000 in
theorem iApartAt_ok (x y u v x' y' u' v' c s : Int) (h : moveB x y u v c = true) (h' : moveB x' y' u' v' c = true) (hs : 0 ≤ s) (hs' : s ≤ c) (w : World) :
    Calls Try.prog 16 #[.agg #[.int .i64 x, .int .i64 y, .int .i64 u, .int .i64 v, .int .i64 c], .agg #[.int .i64 x', .int .i64 y', .int .i64 u', .int .i64 v', .int .i64 c], .int .i64 s] w
      (Ans w (.tuple #[.int .i64 (lowA (sqm x y u v x' y' u' v' c s) (c * c)), .int .i64 (lowB (sqm x y u v x' y' u' v' c s) (c * c)), .bool true])) := by
  have HT := Lib.hid (goTogether_any x y u v c x' y' u' v' c)
  rw [togB_iff.2 ⟨⟨h, h'⟩, rfl⟩] at HT
  have hin : inB s 0 c = true := inB_iff.2 ⟨hs, hs'⟩
  have HB := sqm_bd h h' hs hs'
  obtain ⟨⟨b1, b2⟩, ⟨b3, b4⟩, ⟨b5, b6⟩, ⟨b7, b8⟩, b9, b10⟩ := HB
  have H := Lib.hid (show sqm x y u v x' y' u' v' c s = (pAt x u c s - pAt x' u' c s) * (pAt x u c s - pAt x' u' c s) + (pAt y v c s - pAt y' v' c s) * (pAt y v c s - pAt y' v' c s) from rfl)
  go_enter Try.func16, Try.ntmps16
  go_wp2_with (first | (go_at_call 34; refine (from0 (HT.out _) (by first | exact hb0 | exact up_alloc hb0 _ | exact up_drew hb0 | exact up_drewN hb0 _ | exact Below.refl _ _)).mono ?_; rintro e w1 ⟨rfl, hb0⟩; obtain ⟨hc0, hf0⟩ := bcell hb0; have hz0 := hb0.size; simp at hz0; have hz1 : w.heap.size < w1.heap.size := (by omega); try have hz2 : w.heap.size + 1 < w1.heap.size := (by omega)) | (go_at_call 44; refine (within_any _ _ _ _).mono ?_; rintro e w1 ⟨rfl, rfl⟩) | (go_at_call 48; refine (from0 (placeAt_any _ _ _ _ _ _ (by with_reducible assumption) hs hs' _) (by first | exact hb0 | exact up_alloc hb0 _ | exact up_drew hb0 | exact up_drewN hb0 _ | exact Below.refl _ _)).mono ?_; rintro e w1 ⟨rfl, hb0⟩; obtain ⟨hc0, hf0⟩ := bcell hb0) | (go_at_call 39; refine (from0 (lowestTerms_any _ _ (by omega) (by omega) (by omega) (by omega) _) (by first | exact hb0 | exact up_alloc hb0 _ | exact up_drew hb0 | exact up_drewN hb0 _ | exact Below.refl _ _)).mono ?_; rintro e w1 ⟨rfl, hb0⟩; obtain ⟨hc0, hf0⟩ := bcell hb0))
  go_ret3
  rw [H.out]
  exact ⟨rfl, by (repeat (first | with_reducible exact Below.refl _ _ | with_reducible assumption | with_reducible refine up_alloc ?_ _ | with_reducible refine up_drew ?_ | with_reducible refine up_drewN ?_ _ | (with_reducible refine up_set ?_ ?hset _; case hset => first | (simp; done) | (simp; omega) | omega) | with_reducible refine up_trans ?_ (by with_reducible assumption)))⟩
set_option maxRecDepth 100000 in
set_option maxHeartbeats 4000000 in
theorem iApartAt_any (x y u v c x' y' u' v' c' s : Int) (w : World) :
    Calls Try.prog 16 #[.agg #[.int .i64 x, .int .i64 y, .int .i64 u, .int .i64 v, .int .i64 c], .agg #[.int .i64 x', .int .i64 y', .int .i64 u', .int .i64 v', .int .i64 c'], .int .i64 s] w (Ans w (aaV x y u v c x' y' u' v' c' s)) := by
  have HT := Lib.hid (goTogether_any x y u v c x' y' u' v' c')
  cases ht : togB x y u v c x' y' u' v' c' with
  | true =>
    rw [ht] at HT
    obtain ⟨⟨hm, hm'⟩, rfl⟩ := togB_iff.1 ht
    cases hi : inB s 0 c with
    | true =>
      rw [aaV_ok (by unfold aaOk; rw [ht, hi]; rfl)]
      obtain ⟨h0, h1⟩ := inB_iff.1 hi
      exact iApartAt_ok x y u v x' y' u' v' c s hm hm' h0 h1 w
    | false =>
      have HV := Lib.hid (aaV_no (x := x) (y := y) (u := u) (v := v) (c := c) (x' := x') (y' := y') (u' := u') (v' := v') (c' := c) (s := s) (by unfold aaOk; rw [ht, hi]; rfl))
      clear ht hm hm'
      go_enter Try.func16, Try.ntmps16
      go_wp2_with (first | (go_at_call 34; refine (from0 (HT.out _) (by first | exact hb0 | exact up_alloc hb0 _ | exact up_drew hb0 | exact up_drewN hb0 _ | exact Below.refl _ _)).mono ?_; rintro e w1 ⟨rfl, hb0⟩; obtain ⟨hc0, hf0⟩ := bcell hb0; have hz0 := hb0.size; simp at hz0; have hz1 : w.heap.size < w1.heap.size := (by omega); try have hz2 : w.heap.size + 1 < w1.heap.size := (by omega)) | (go_at_call 44; refine (within_any _ _ _ _).mono ?_; rintro e w1 ⟨rfl, rfl⟩))
      go_ret3
      rw [HV.out]
      exact ⟨rfl, by (repeat (first | with_reducible exact Below.refl _ _ | with_reducible assumption | with_reducible refine up_alloc ?_ _ | with_reducible refine up_drew ?_ | with_reducible refine up_drewN ?_ _ | (with_reducible refine up_set ?_ ?hset _; case hset => first | (simp; done) | (simp; omega) | omega) | with_reducible refine up_trans ?_ (by with_reducible assumption)))⟩
  | false =>
    rw [ht] at HT
    have HV := Lib.hid (aaV_no (x := x) (y := y) (u := u) (v := v) (c := c) (x' := x') (y' := y') (u' := u') (v' := v') (c' := c') (s := s) (by unfold aaOk; rw [ht]; rfl))
    clear ht
    go_enter Try.func16, Try.ntmps16
    go_wp2_with (go_at_call 34; refine (from0 (HT.out _) (by first | exact hb0 | exact up_alloc hb0 _ | exact up_drew hb0 | exact up_drewN hb0 _ | exact Below.refl _ _)).mono ?_; rintro e w1 ⟨rfl, hb0⟩; obtain ⟨hc0, hf0⟩ := bcell hb0; have hz0 := hb0.size; simp at hz0; have hz1 : w.heap.size < w1.heap.size := (by omega); try have hz2 : w.heap.size + 1 < w1.heap.size := (by omega))
    go_ret3
    rw [HV.out]
    exact ⟨rfl, by (repeat (first | with_reducible exact Below.refl _ _ | with_reducible assumption | with_reducible refine up_alloc ?_ _ | with_reducible refine up_drew ?_ | with_reducible refine up_drewN ?_ _ | (with_reducible refine up_set ?_ ?hset _; case hset => first | (simp; done) | (simp; omega) | omega) | with_reducible refine up_trans ?_ (by with_reducible assumption)))⟩
set_option maxRecDepth 100000 in
set_option maxHeartbeats 4000000 in
theorem sApartAt_any (x y u v c x' y' u' v' c' s : Int) (w : World) :
    Calls Try.prog 17 #[.agg #[.int .i64 x, .int .i64 y, .int .i64 u, .int .i64 v, .int .i64 c], .agg #[.int .i64 x', .int .i64 y', .int .i64 u', .int .i64 v', .int .i64 c'], .int .i64 s] w (Ans w (aaV x y u v c x' y' u' v' c' s)) := by
  have HT := Lib.hid (apGood_any x y u v c x' y' u' v' c')
  cases ht : togB x y u v c x' y' u' v' c' with
  | true =>
    rw [ht] at HT
    obtain ⟨⟨hm, hm'⟩, rfl⟩ := togB_iff.1 ht
    cases hi : inB s 0 c with
    | true =>
      rw [aaV_ok (by unfold aaOk; rw [ht, hi]; rfl)]
      obtain ⟨h0, h1⟩ := inB_iff.1 hi
      exact apartAt_any x y u v x' y' u' v' c s hm hm' h0 h1 w
    | false =>
      have HV := Lib.hid (aaV_no (x := x) (y := y) (u := u) (v := v) (c := c) (x' := x') (y' := y') (u' := u') (v' := v') (c' := c) (s := s) (by unfold aaOk; rw [ht, hi]; rfl))
      clear ht hm hm'
      go_enter Try.func17, Try.ntmps17
      go_wp2_with (first | (go_at_call 36; refine (from0 (HT.out _) (by first | exact hb0 | exact up_alloc hb0 _ | exact up_drew hb0 | exact up_drewN hb0 _ | exact Below.refl _ _)).mono ?_; rintro e w1 ⟨rfl, hb0⟩; obtain ⟨hc0, hf0⟩ := bcell hb0; have hz0 := hb0.size; simp at hz0; have hz1 : w.heap.size < w1.heap.size := (by omega); try have hz2 : w.heap.size + 1 < w1.heap.size := (by omega)) | (go_at_call 52; refine (l1In_any _ _ _ _).mono ?_; rintro e w1 ⟨rfl, rfl⟩))
      go_ret3
      rw [HV.out]
      exact ⟨rfl, by (repeat (first | with_reducible exact Below.refl _ _ | with_reducible assumption | with_reducible refine up_alloc ?_ _ | with_reducible refine up_drew ?_ | with_reducible refine up_drewN ?_ _ | (with_reducible refine up_set ?_ ?hset _; case hset => first | (simp; done) | (simp; omega) | omega) | with_reducible refine up_trans ?_ (by with_reducible assumption)))⟩
  | false =>
    rw [ht] at HT
    have HV := Lib.hid (aaV_no (x := x) (y := y) (u := u) (v := v) (c := c) (x' := x') (y' := y') (u' := u') (v' := v') (c' := c') (s := s) (by unfold aaOk; rw [ht]; rfl))
    clear ht
    go_enter Try.func17, Try.ntmps17
    go_wp2_with (go_at_call 36; refine (from0 (HT.out _) (by first | exact hb0 | exact up_alloc hb0 _ | exact up_drew hb0 | exact up_drewN hb0 _ | exact Below.refl _ _)).mono ?_; rintro e w1 ⟨rfl, hb0⟩; obtain ⟨hc0, hf0⟩ := bcell hb0; have hz0 := hb0.size; simp at hz0; have hz1 : w.heap.size < w1.heap.size := (by omega); try have hz2 : w.heap.size + 1 < w1.heap.size := (by omega))
    go_ret3
    rw [HV.out]
    exact ⟨rfl, by (repeat (first | with_reducible exact Below.refl _ _ | with_reducible assumption | with_reducible refine up_alloc ?_ _ | with_reducible refine up_drew ?_ | with_reducible refine up_drewN ?_ _ | (with_reducible refine up_set ?_ ?hset _; case hset => first | (simp; done) | (simp; omega) | omega) | with_reducible refine up_trans ?_ (by with_reducible assumption)))⟩
end Go.Proofs.Ytljdhicmcmppgaa
namespace Go.Proofs.Ytljdhicmcmppgaa
open Go.RowKit Go.Sort Go.ChangeShapes Go.WideShapes

theorem cell_drew (w : World) (p : Addr) : w.drew.cell? p = w.cell? p := rfl
theorem frozen_drew (w : World) (p : Addr) : w.drew.frozen? p = w.frozen? p := rfl
/-- A chart, and a place in it. -/
def hasI (n : Nat) (X Y : Nat → Int) (i : Int) : Bool := chartB n X Y && inB i 0 ((n : Int) - 1)
theorem hasI_iff {n : Nat} {X Y : Nat → Int} {i : Int} : hasI n X Y i = true ↔ chartB n X Y = true ∧ 0 ≤ i ∧ i ≤ (n : Int) - 1 := by simp [hasI, inB_iff]
/-- The list with two places changed about. -/
def swX (i j : Nat) (X : Nat → Int) (t : Nat) : Int := if t = j then X i else if t = i then X j else X t
def swB (n : Nat) (X Y : Nat → Int) (i j : Int) : Bool := hasI n X Y i && hasI n X Y j
end Go.Proofs.Ytljdhicmcmppgaa
namespace Go.Proofs.Ytljdhicmcmppgaa
open Go.RowKit Go.Sort Go.ChangeShapes Go.WideShapes

/-- The list with the number x at the place i. -/
def plX (i : Nat) (x : Int) (X : Nat → Int) (t : Nat) : Int := if t = i then x else X t
def plB (n : Nat) (X Y : Nat → Int) (i x y : Int) : Bool := hasI n X Y i && chartB n (plX i.toNat x X) (plX i.toNat y Y)
theorem pl_no {n : Nat} {X Y : Nat → Int} {i x y : Int} (h : spotB x y = false) : plB n X Y i x y = false := by
  cases hm : plB n X Y i x y with
  | false => rfl
  | true =>
    simp only [plB, Bool.and_eq_true] at hm
    obtain ⟨_, h1, h2⟩ := hasI_iff.1 hm.1
    have := (chartB_iff.1 hm.2).2.1 i.toNat (by omega)
    simp [plX, h] at this
end Go.Proofs.Ytljdhicmcmppgaa
namespace Go.Proofs.Ytljdhicmcmppgaa
open Go.RowKit Go.Sort Go.ChangeShapes Go.WideShapes

def dB (dx dy : Int) : Bool := inB dx (-2000) 2000 && inB dy (-2000) 2000
def msB (x y dx dy : Int) : Bool := (spotB x y && dB dx dy) && spotB (x + dx) (y + dy)
def msV (x y dx dy : Int) : Value := if msB x y dx dy then .tuple #[.agg #[.int .i64 (x + dx), .int .i64 (y + dy)], .bool true] else .tuple #[.agg #[.int .i64 0, .int .i64 0], .bool false]
/-- The moved chart. -/
def mcB (n : Nat) (X Y : Nat → Int) (dx dy : Int) : Bool := (chartB n X Y && dB dx dy) && chartB n (fun i => X i + dx) (fun i => Y i + dy)
theorem mc_no {n : Nat} {X Y : Nat → Int} {dx dy : Int} {k : Nat} (hk : k < n) (h : msB (X k) (Y k) dx dy = false) : mcB n X Y dx dy = false := by
  cases hm : mcB n X Y dx dy with
  | false => rfl
  | true =>
    simp only [mcB, Bool.and_eq_true] at hm
    have h1 := (chartB_iff.1 hm.1.1).2.1 k hk
    have h2 := (chartB_iff.1 hm.2).2.1 k hk
    simp [msB, h1, h2, hm.1.2] at h
theorem mc_yes {n : Nat} {X Y : Nat → Int} {dx dy : Int} (hc : chartB n X Y = true) (h : ∀ k, k < n → msB (X k) (Y k) dx dy = true) : mcB n X Y dx dy = true := by
  have hc' := chartB_iff.1 hc
  have h0 := h 0 (by omega)
  simp only [msB, Bool.and_eq_true] at h0
  have : chartB n (fun i => X i + dx) (fun i => Y i + dy) = true := by
    refine chartB_iff.2 ⟨hc'.1, fun k hk => ?_, ?_⟩
    · have := h k hk
      simp only [msB, Bool.and_eq_true] at this
      exact this.2
    · intro i j hi hj he
      exact hc'.2.2 i j hi hj (by omega)
  simp [mcB, hc, h0.1.2, this]
end Go.Proofs.Ytljdhicmcmppgaa
namespace Go.Proofs.Ytljdhicmcmppgaa
open Go.RowKit

theorem sw_sw (i j : Nat) (X : Nat → Int) (t : Nat) : swX i j (swX i j X) t = X t := by
  unfold swX
  by_cases h1 : t = j
  · subst h1
    rw [if_pos rfl]
    by_cases h2 : i = t
    · subst h2; simp
    · rw [if_neg h2, if_pos rfl]
  · rw [if_neg h1]
    by_cases h2 : t = i
    · subst h2
      rw [if_pos rfl, if_pos rfl]
    · rw [if_neg h2, if_neg h1, if_neg h2]
/-- The place that a swap brings to t. -/
def swT (i j t : Nat) : Nat := if t = j then i else if t = i then j else t
theorem sw_at (i j : Nat) (X : Nat → Int) (t : Nat) : swX i j X t = X (swT i j t) := by
  unfold swX swT
  split
  · rfl
  · split <;> rfl
theorem swT_lt {i j t n : Nat} (hi : i < n) (hj : j < n) (ht : t < n) : swT i j t < n := by unfold swT; split; omega; split <;> omega
theorem swT_inj {i j s t : Nat} (h : swT i j s = swT i j t) : s = t := by
  unfold swT at h
  split at h <;> split at h
  all_goals first | omega | (split at h <;> first | omega | (split at h <;> omega))
theorem swT_swT (i j t : Nat) : swT i j (swT i j t) = t := by
  unfold swT
  by_cases h1 : t = j
  · subst h1; rw [if_pos rfl]; by_cases h2 : i = t
    · subst h2; simp
    · rw [if_neg h2, if_pos rfl]
  · rw [if_neg h1]
    by_cases h2 : t = i
    · subst h2; rw [if_pos rfl, if_pos rfl]
    · rw [if_neg h2, if_neg h1, if_neg h2]
theorem chart_ne {n : Nat} {X Y : Nat → Int} (h : chartB n X Y = true) {i j : Nat} (hi : i < n) (hj : j < n) (hij : i ≠ j) : ¬ (X i = X j ∧ Y i = Y j) := by
  have hd := (chartB_iff.1 h).2.2
  rcases Nat.lt_or_gt_of_ne hij with hlt | hlt
  · intro e; exact hd j i hj hlt ⟨e.1.symm, e.2.symm⟩
  · exact hd i j hi hlt
theorem sw_chart {n : Nat} {X Y : Nat → Int} (h : chartB n X Y = true) {i j : Nat} (hi : i < n) (hj : j < n) : chartB n (swX i j X) (swX i j Y) = true := by
  have hc := chartB_iff.1 h
  refine chartB_iff.2 ⟨hc.1, fun k hk => ?_, fun s t hs ht => ?_⟩
  · rw [sw_at, sw_at]; exact hc.2.1 _ (swT_lt hi hj hk)
  · rw [sw_at, sw_at, sw_at, sw_at]
    refine chart_ne h (swT_lt hi hj hs) (swT_lt hi hj (by omega)) (fun e => ?_)
    have := swT_inj e
    omega
theorem same_iff {x y u v : Int} : same x y u v = true ↔ x = u ∧ y = v := by simp [same]
theorem sub_iff {n m : Nat} {X Y X' Y' : Nat → Int} : subB n X Y m X' Y' = true ↔ ∀ i, i < n → ∃ j, j < m ∧ X i = X' j ∧ Y i = Y' j := by
  unfold subB
  rw [allB_iff]
  constructor
  · intro h i hi
    obtain ⟨j, hj, e⟩ := hasB_iff.1 (h i hi)
    exact ⟨j, hj, same_iff.1 e⟩
  · intro h i hi
    obtain ⟨j, hj, e⟩ := h i hi
    exact hasB_iff.2 ⟨j, hj, same_iff.2 e⟩
theorem sw_same {n : Nat} {X Y : Nat → Int} (h : chartB n X Y = true) {i j : Nat} (hi : i < n) (hj : j < n) : sfR n X Y n (swX i j X) (swX i j Y) = true ∧ sfG n X Y n (swX i j X) (swX i j Y) = true := by
  have h2 := sw_chart h hi hj
  have h3 : subB n X Y n (swX i j X) (swX i j Y) = true := sub_iff.2 fun t ht => ⟨swT i j t, swT_lt hi hj ht, by rw [sw_at, swT_swT], by rw [sw_at, swT_swT]⟩
  unfold sfR sfG
  rw [h, h2, h3]
  simp
/-- A map of the numbers below n into those below m that hits none twice. -/
theorem pigeon : ∀ (m n : Nat) (f : Nat → Nat), (∀ i, i < n → f i < m) → (∀ i j, i < n → j < n → f i = f j → i = j) → n ≤ m := by
  intro m
  induction m with
  | zero =>
    intro n f h1 _
    rcases Nat.eq_zero_or_pos n with h | h
    · omega
    · exact absurd (h1 0 h) (by omega)
  | succ m ih =>
    intro n f h1 h2
    by_cases hh : ∃ k, k < n ∧ f k = m
    · obtain ⟨k, hk, ek⟩ := hh
      have := ih (n - 1) (fun i => f (if i < k then i else i + 1)) (fun i hi => by
        have a := h1 (if i < k then i else i + 1) (by split <;> omega)
        rcases Nat.lt_or_ge (f (if i < k then i else i + 1)) m with h | h
        · exact h
        · have e : f (if i < k then i else i + 1) = f k := by omega
          have := h2 _ _ (by split <;> omega) hk e
          split at this <;> omega) (fun i j hi hj e => by
        have := h2 _ _ (by split <;> omega) (by split <;> omega) e
        split at this <;> split at this <;> omega)
      omega
    · have := ih n f (fun i hi => by
        have a := h1 i hi
        rcases Nat.lt_or_ge (f i) m with h | h
        · exact h
        · exact absurd ⟨i, hi, by omega⟩ hh) h2
      omega
theorem sub_comm {n : Nat} {X Y X' Y' : Nat → Int} (h : chartB n X Y = true) (hs : subB n X Y n X' Y' = true) : subB n X' Y' n X Y = true := by
  have H := sub_iff.1 hs
  have key : ∀ i, ∃ j, i < n → j < n ∧ X i = X' j ∧ Y i = Y' j := fun i => by
    by_cases hi : i < n
    · obtain ⟨j, hj⟩ := H i hi; exact ⟨j, fun _ => hj⟩
    · exact ⟨0, fun h => absurd h hi⟩
  obtain ⟨f, hf⟩ := Classical.axiomOfChoice key
  have inj : ∀ i j, i < n → j < n → f i = f j → i = j := fun i j hi hj e => by
    apply Classical.byContradiction
    intro hne
    have a := hf i hi
    have b := hf j hj
    refine chart_ne h hi hj hne ⟨?_, ?_⟩
    · rw [a.2.1, b.2.1, e]
    · rw [a.2.2, b.2.2, e]
  refine sub_iff.2 fun k hk => ?_
  apply Classical.byContradiction
  intro hno
  have hmiss : ∀ i, i < n → f i ≠ k := fun i hi e => hno ⟨i, hi, by rw [(hf i hi).2.1, e], by rw [(hf i hi).2.2, e]⟩
  have := pigeon (n - 1) n (fun i => if f i < k then f i else f i - 1) (fun i hi => by
    have a := (hf i hi).1
    have b := hmiss i hi
    split <;> omega) (fun i j hi hj e => by
    have a := hmiss i hi
    have b := hmiss j hj
    refine inj i j hi hj ?_
    split at e <;> split at e <;> omega)
  omega
theorem sf_comm (n m : Nat) (X Y X' Y' : Nat → Int) : sfR m X' Y' n X Y = sfR n X Y m X' Y' ∧ sfG m X' Y' n X Y = sfG n X Y m X' Y' := by
  refine ⟨?_, by unfold sfG; rw [Bool.and_comm]⟩
  have key : ∀ (n m : Nat) (X Y X' Y' : Nat → Int), sfR n X Y m X' Y' = true → sfR m X' Y' n X Y = true := fun n m X Y X' Y' h => by
    unfold sfR at h ⊢
    simp only [Bool.and_eq_true, beq_iff_eq] at h ⊢
    obtain ⟨⟨h1, h2⟩, h3, h4⟩ := h
    subst h3
    exact ⟨⟨h2, h1⟩, rfl, sub_comm h1 h4⟩
  rw [Bool.eq_iff_iff]
  exact ⟨key _ _ _ _ _ _, key _ _ _ _ _ _⟩
theorem chL_none {D : Nat → Bool} : ∀ {k : Nat}, (∀ t, t < k → D t = false) → (chL D k).length = 0
  | 0, _ => rfl
  | k + 1, h => by
    unfold chL
    rw [h k (by omega)]
    simp only [Bool.false_eq_true, if_false]
    exact chL_none fun t ht => h t (by omega)
theorem chL_two {D : Nat → Bool} {i j : Nat} (hij : i < j) (hD : ∀ t, D t = true ↔ t = i ∨ t = j) : ∀ k, (chL D k).length = if k ≤ i then 0 else if k ≤ j then 1 else 2
  | 0 => by simp [chL]
  | k + 1 => by
    have ih := chL_two hij hD k
    unfold chL
    by_cases h : D k = true
    · rw [if_pos h, List.length_append, ih, List.length_singleton]
      have hk := (hD k).1 h
      repeat' split
      all_goals omega
    · rw [if_neg h, ih]
      have h1 : k ≠ i := fun e => h ((hD k).2 (.inl e))
      have h2 : k ≠ j := fun e => h ((hD k).2 (.inr e))
      repeat' split
      all_goals omega
theorem sw_changed {n : Nat} {X Y : Nat → Int} (h : chartB n X Y = true) {i j : Nat} (hi : i < n) (hj : j < n) : cpB n X Y n (swX i j X) (swX i j Y) = true ∧ cgN n X Y n (swX i j X) (swX i j Y) = if i = j then 0 else 2 := by
  have h2 := sw_chart h hi hj
  have h3 : cpB n X Y n (swX i j X) (swX i j Y) = true := by unfold cpB; rw [h, h2]; simp
  refine ⟨h3, ?_⟩
  unfold cgN
  rw [if_pos h3]
  have hd : ∀ t, t < n → (difB X Y (swX i j X) (swX i j Y) t = true ↔ i ≠ j ∧ (t = i ∨ t = j)) := fun t ht => by
    unfold difB
    rw [Bool.not_eq_true', ← Bool.not_eq_true, same_iff, sw_at, sw_at]
    constructor
    · intro hn
      by_cases e : t = i ∨ t = j
      · refine ⟨fun e2 => hn ?_, e⟩
        subst e2
        have : swT i i t = t := by
          unfold swT
          repeat' split
          all_goals omega
        rw [this]; exact ⟨rfl, rfl⟩
      · exfalso
        have : swT i j t = t := by unfold swT; rw [if_neg (fun h => e (.inr h)), if_neg (fun h => e (.inl h))]
        rw [this] at hn
        exact hn ⟨rfl, rfl⟩
    · rintro ⟨hne, e⟩
      refine chart_ne h ht (swT_lt hi hj ht) ?_
      unfold swT
      rcases e with rfl | rfl
      · rw [if_neg hne, if_pos rfl]; exact hne
      · rw [if_pos rfl]; omega
  have cong : ∀ (k : Nat) (D D' : Nat → Bool), (∀ t, t < k → D t = D' t) → chL D k = chL D' k := by
    intro k D D' hh
    induction k with
    | zero => rfl
    | succ k ih =>
      unfold chL
      rw [ih (fun t ht => hh t (by omega)), hh k (by omega)]
  by_cases e : i = j
  · rw [if_pos e]
    refine chL_none fun t ht => ?_
    cases hq : difB X Y (swX i j X) (swX i j Y) t with
    | false => rfl
    | true => exact absurd e ((hd t ht).1 hq).1
  · rw [if_neg e]
    have e2 : chL (difB X Y (swX i j X) (swX i j Y)) n = chL (fun t => decide (t = i ∨ t = j)) n := cong n _ _ fun t ht => by
      rw [Bool.eq_iff_iff, hd t ht]
      simp [e]
    rw [e2]
    rcases Nat.lt_or_gt_of_ne e with hlt | hlt
    · rw [chL_two hlt (D := fun t => decide (t = i ∨ t = j)) (by intro t; simp), if_neg (by omega), if_neg (by omega)]
    · rw [chL_two hlt (D := fun t => decide (t = i ∨ t = j)) (by intro t; simp; omega), if_neg (by omega), if_neg (by omega)]
theorem pl_facts {n : Nat} {X Y : Nat → Int} {i x y : Int} (h : plB n X Y i x y = true) : (0 ≤ i ∧ i < (n : Int)) ∧ chartB n (plX i.toNat x X) (plX i.toNat y Y) = true := by
  unfold plB at h
  simp only [Bool.and_eq_true] at h
  obtain ⟨_, h1, h2⟩ := hasI_iff.1 h.1
  exact ⟨⟨h1, by omega⟩, h.2⟩
theorem mc_back {n : Nat} {X Y : Nat → Int} {dx dy : Int} (h : mcB n X Y dx dy = true) : mcB n (fun i => X i + dx) (fun i => Y i + dy) (-dx) (-dy) = true := by
  unfold mcB at h ⊢
  simp only [Bool.and_eq_true] at h ⊢
  obtain ⟨⟨h1, h2⟩, h3⟩ := h
  refine ⟨⟨h3, ?_⟩, ?_⟩
  · unfold dB at h2 ⊢
    simp only [Bool.and_eq_true, inB_iff] at h2 ⊢
    omega
  · rw [← h1]
    exact chartB_cong (fun i _ => by omega) (fun i _ => by omega)
end Go.Proofs.Ytljdhicmcmppgaa
namespace Go.Proofs.Ytljdhicmcmppgaa
open Go.RowKit

theorem chL_mem {D : Nat → Bool} {k : Nat} : ∀ {n : Nat}, (k : Int) ∈ chL D n ↔ k < n ∧ D k = true
  | 0 => by simp [chL]
  | n + 1 => by
    have ih := chL_mem (D := D) (k := k) (n := n)
    unfold chL
    by_cases h : D n = true
    · rw [if_pos h, List.mem_append, ih, List.mem_singleton]
      constructor
      · rintro (⟨h1, h2⟩ | h1)
        · exact ⟨by omega, h2⟩
        · have : k = n := by omega
          subst this
          exact ⟨by omega, h⟩
      · rintro ⟨h1, h2⟩
        by_cases e : k = n
        · exact .inr (by rw [e])
        · exact .inl ⟨by omega, h2⟩
    · rw [if_neg h, ih]
      constructor
      · rintro ⟨h1, h2⟩
        exact ⟨by omega, h2⟩
      · rintro ⟨h1, h2⟩
        by_cases e : k = n
        · subst e; exact absurd h2 h
        · exact ⟨by omega, h2⟩
theorem has_chL {D : Nat → Bool} {n k : Nat} (hk : k < n) : hasN (fun i => (chL D n).getD i 0) k (chL D n).length = D k := by
  rw [Bool.eq_iff_iff]
  unfold hasN
  rw [hasB_iff]
  constructor
  · rintro ⟨i, hi, e⟩
    have e2 : (chL D n).getD i 0 = (k : Int) := by simpa using e
    rw [List.getD_eq_getElem?_getD, List.getElem?_eq_getElem hi, Option.getD_some] at e2
    have : (k : Int) ∈ chL D n := by rw [← e2]; exact List.getElem_mem hi
    exact (chL_mem.1 this).2
  · intro h
    obtain ⟨i, hi, e⟩ := List.mem_iff_getElem.1 (chL_mem.2 ⟨hk, h⟩)
    exact ⟨i, hi, by show ((chL D n).getD i 0 == (k : Int)) = true; rw [List.getD_eq_getElem?_getD, List.getElem?_eq_getElem hi, Option.getD_some, e]; simp⟩
theorem low_rng {a b : Int} (ha : 0 ≤ a) (hb : 0 < b) (A B : Int) (hA : a ≤ A) (hB : b ≤ B) : (0 ≤ lowA a b ∧ lowA a b ≤ A) ∧ 1 ≤ lowB a b ∧ lowB a b ≤ B := by
  have h := low_bd ha hb
  have := lowB_pos (a := a) hb
  omega
/-- What the law asks at one count. -/
structure AtF (x y u v x' y' u' v' c d : Int) (k : Nat) : Prop where
  rng : (0 ≤ lowA (sqm x y u v x' y' u' v' c k) (c * c) ∧ lowA (sqm x y u v x' y' u' v' c k) (c * c) ≤ 11838003609600) ∧ 1 ≤ lowB (sqm x y u v x' y' u' v' c k) (c * c) ∧ lowB (sqm x y u v x' y' u' v' c k) (c * c) ≤ 8359936
  has : hasN (fun i => (ccL x y u v x' y' u' v' c d).getD i 0) k (ccL x y u v x' y' u' v' c d).length = lessB (lowA (sqm x y u v x' y' u' v' c k) (c * c)) (lowB (sqm x y u v x' y' u' v' c k) (c * c)) (d * d) 1
  least : lessB (lowA (sqm x y u v x' y' u' v' c k) (c * c)) (lowB (sqm x y u v x' y' u' v' c k) (c * c)) (apM x y u v x' y' u' v').1 (apM x y u v x' y' u' v').2 = false
  time : (ctM x y u v x' y' u' v' c).2 = 1 → (k : Int) = (ctM x y u v x' y' u' v' c).1 → lowA (sqm x y u v x' y' u' v' c k) (c * c) = (apM x y u v x' y' u' v').1 ∧ lowB (sqm x y u v x' y' u' v' c k) (c * c) = (apM x y u v x' y' u' v').2
theorem at_least {x y u v x' y' u' v' c : Int} {k : Nat} (h : moveB x y u v c = true) (hk : (k : Int) ≤ c) : (apM x y u v x' y' u' v').1 * (c * c) ≤ sqm x y u v x' y' u' v' c k * (apM x y u v x' y' u' v').2 := by
  rw [sqm_dAt]
  have hc := (moveB_iff.1 h).2
  exact ap_least (by omega) hk (by omega) rfl rfl
theorem at_facts {x y u v x' y' u' v' c d : Int} {k : Nat} (h : moveB x y u v c = true) (h' : moveB x' y' u' v' c = true) (hk : (k : Int) ≤ c) : AtF x y u v x' y' u' v' c d k := by
  have hc := (moveB_iff.1 h).2
  have hs := sqm_bd h h' (show (0 : Int) ≤ k by omega) hk
  obtain ⟨_, _, ⟨s1, s2⟩, ⟨s3, s4⟩, s5, s6⟩ := hs
  have hsq : 0 ≤ sqm x y u v x' y' u' v' c k ∧ sqm x y u v x' y' u' v' c k ≤ 214748364800 := by unfold sqm; omega
  refine ⟨low_rng hsq.1 (by omega) _ _ (by omega) (by omega), ?_, ?_, ?_⟩
  · unfold ccL
    rw [has_chL (by omega)]
    unfold ccD lessB
    refine decide_eq_decide.2 ?_
    rw [Int.mul_one, low_lt (by omega), Int.mul_assoc (d * d)]
  · have hl := at_least (x' := x') (y' := y') (u' := u') (v' := v') h hk
    obtain ⟨g, hg, e1, e2⟩ := low_mul (a := sqm x y u v x' y' u' v' c k) (b := c * c) (by omega)
    unfold lessB
    rw [decide_eq_false_iff_not]
    intro hlt
    generalize lowA (sqm x y u v x' y' u' v' c k) (c * c) = A at *
    generalize lowB (sqm x y u v x' y' u' v' c k) (c * c) = B at *
    generalize (apM x y u v x' y' u' v').1 = p at *
    generalize (apM x y u v x' y' u' v').2 = q at *
    rw [← e1, ← e2] at hl
    have h3 := Int.mul_lt_mul_of_pos_left hlt hg
    have h4 : g * (A * q) = A * g * q := by grind
    have h5 : g * (p * B) = p * (B * g) := by grind
    omega
  · intro h1 h2
    rw [sqm_dAt, h2]
    exact ct_at (by omega) rfl rfl h1
theorem stay_less {x y u v x' y' u' v' d : Int} : saB x y u v x' y' u' v' d = !lessB (apM x y u v x' y' u' v').1 (apM x y u v x' y' u' v').2 (d * d) 1 := by
  unfold saB lessB
  generalize (apM x y u v x' y' u' v').1 = p
  generalize (apM x y u v x' y' u' v').2 = q
  rw [Int.mul_one]
  by_cases h : d * d * q ≤ p
  · simp [h]
  · simp [h]; omega
theorem stay_none {x y u v x' y' u' v' c d : Int} (h : moveB x y u v c = true) (h' : moveB x' y' u' v' c = true) (hs : saB x y u v x' y' u' v' d = true) : (ccL x y u v x' y' u' v' c d).length = 0 := by
  have hc := (moveB_iff.1 h).2
  refine chL_none fun t ht => ?_
  have hl := at_least (x' := x') (y' := y') (u' := u') (v' := v') (k := t) h (by omega)
  have hq := (apM_bd h h').2.1
  unfold saB at hs
  rw [decide_eq_true_iff] at hs
  unfold ccD
  rw [decide_eq_false_iff_not]
  intro hlt
  generalize (apM x y u v x' y' u' v').1 = p at *
  generalize (apM x y u v x' y' u' v').2 = q at *
  generalize sqm x y u v x' y' u' v' c t = S at *
  have hcc : 0 < c * c := Int.mul_pos (by omega) (by omega)
  have h1 := Int.mul_lt_mul_of_pos_right hlt (show 0 < q by omega)
  have h2 := Int.mul_le_mul_of_nonneg_right hs (show 0 ≤ c * c by omega)
  have h3 : d * d * c * c * q = d * d * q * (c * c) := by grind
  omega
theorem tog_comm {x y u v c x' y' u' v' c' : Int} (h : togB x y u v c x' y' u' v' c' = true) : togB x' y' u' v' c' x y u v c = true := by
  obtain ⟨⟨h1, h2⟩, h3⟩ := togB_iff.1 h
  exact togB_iff.2 ⟨⟨h2, h1⟩, h3.symm⟩
theorem ct_facts {x y u v x' y' u' v' c : Int} (h : moveB x y u v c = true) : 1 ≤ (ctM x y u v x' y' u' v' c).2 ∧ 0 ≤ (ctM x y u v x' y' u' v' c).1 ∧ (ctM x y u v x' y' u' v' c).1 ≤ c * (ctM x y u v x' y' u' v' c).2 := by
  have hc := (moveB_iff.1 h).2
  refine ct_bd (by omega) ?_
  have := sq_nonneg (u - u' - (x - x'))
  have := sq_nonneg (v - v' - (y - y'))
  omega
theorem ct_top {x y u v x' y' u' v' c : Int} (h : moveB x y u v c = true) (h' : moveB x' y' u' v' c = true) : (ctM x y u v x' y' u' v' c).1 ≤ 4179968 * 64 ∧ (ctM x y u v x' y' u' v' c).2 ≤ 8359936 := by
  have hB := (Way.mk' x y u v x' y' u' v').bd h h'
  have hc := (moveB_iff.1 h).2
  have hd : -4179968 ≤ ((x - x') * (u - u' - (x - x')) + (y - y') * (v - v' - (y - y'))) := by have := hB.c1; have := hB.d1; have := hB.a1; have := hB.b1; have := hB.e1; have := hB.f1; omega
  have hz : ((u - u' - (x - x')) * (u - u' - (x - x')) + (v - v' - (y - y')) * (v - v' - (y - y'))) ≤ 8359936 := by have := hB.c2; have := hB.d2; have := hB.a2; have := hB.b2; have := hB.e2; have := hB.f2; omega
  unfold ctM
  generalize ((x - x') * (u - u' - (x - x')) + (y - y') * (v - v' - (y - y'))) = dot at *
  generalize ((u - u' - (x - x')) * (u - u' - (x - x')) + (v - v' - (y - y')) * (v - v' - (y - y'))) = sz at *
  simp only
  unfold ctA ctZ
  split
  · omega
  · split
    · omega
    · have hm := mul_bd (a := -dot) (b := c) (A := 4179968) (B := 64) (by omega) (by omega) (by omega) (by omega)
      have hn : 0 ≤ -dot * c := Int.mul_nonneg (by omega) (by omega)
      have := low_bd (a := -dot * c) (b := sz) hn (by omega)
      omega
end Go.Proofs.Ytljdhicmcmppgaa
