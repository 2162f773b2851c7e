/-
  Contracts of FnApart's helpers.
-/
import Derived.Test.YtljdhicmcmppgaaRows
import Derived.Test.YtljdhicmcmppgaaBase
import Derived.Test.YtljdhicmcmppgaaSpot
import Derived.Test.YtljdhicmcmppgaaInts
import Derived.Test.YtljdhicmcmppgaaApP
import Derived.Test.YtljdhicmcmppgaaDrawY
import Derived.Deep.QuietTactic
import Derived.BigQuiet
namespace Go.Proofs.Ytljdhicmcmppgaa
open Go.RowKit Go.ChangeShapes Go.WideShapes Go.Sort

set_option maxRecDepth 100000 in
set_option maxHeartbeats 1000000 in
theorem qLess_any (a b c d : Int) (ha : 0 ≤ a) (ha' : a ≤ 11838003609600) (hb : 1 ≤ b) (hb' : b ≤ 8359936) (hc : 0 ≤ c) (hc' : c ≤ 11838003609600) (hd : 1 ≤ d) (hd' : d ≤ 8359936) (w : World) :
    Calls Try.prog 19 #[.int .i64 a, .int .i64 b, .int .i64 c, .int .i64 d] w (Ans w (.bool (lessB a b c d))) := by
  have hL := less_quo ha (show 0 < b by omega) hc (show 0 < d by omega)
  have e1 := Int.mul_tdiv_add_tmod a b
  have r1 := Int.tmod_nonneg b ha
  have r2 := Int.tmod_lt_of_pos a (show 0 < b by omega)
  have s1 := Int.tmod_nonneg d hc
  have s2 := Int.tmod_lt_of_pos c (show 0 < d by omega)
  have q1 : 0 ≤ Int.tdiv a b := Int.tdiv_nonneg ha (by omega)
  have q2 : Int.tdiv a b ≤ a := by rw [Int.tdiv_eq_ediv_of_nonneg ha]; exact Int.ediv_le_self _ ha
  have q3 : 0 ≤ Int.tdiv c d := Int.tdiv_nonneg hc (by omega)
  have q4 : Int.tdiv c d ≤ c := by rw [Int.tdiv_eq_ediv_of_nonneg hc]; exact Int.ediv_le_self _ hc
  have m1 := mul_bd (a := Int.tmod a b) (b := d) (A := 8359936) (B := 8359936) (by omega) (by omega) (by omega) (by omega)
  have m2 := mul_bd (a := Int.tmod c d) (b := b) (A := 8359936) (B := 8359936) (by omega) (by omega) (by omega) (by omega)
  have t1 := Int.tmod_eq_emod_of_nonneg (b := b) ha
  have t2 := Int.tmod_eq_emod_of_nonneg (b := d) hc
  rw [t1] at r1 r2 m1 hL
  rw [t2] at s1 s2 m2 hL
  obtain ⟨m1, m3⟩ := m1
  obtain ⟨m2, m4⟩ := m2
  clear t1 t2
  have nb : b ≠ 0 := by omega
  have nd : d ≠ 0 := by omega
  have z1 : IntKind.i64.wrap (Int.tdiv a b) = Int.tdiv a b := IntWalk.i64_in _ (by omega)
  have z2 : IntKind.i64.wrap (Int.tdiv c d) = Int.tdiv c d := IntWalk.i64_in _ (by omega)
  have z3 : IntKind.i64.wrap (a % b) = a % b := IntWalk.i64_in _ (by omega)
  have z4 : IntKind.i64.wrap (c % d) = c % d := IntWalk.i64_in _ (by omega)
  have z5 : IntKind.i64.wrap (a % b * d) = a % b * d := IntWalk.i64_in _ (by omega)
  have z6 : IntKind.i64.wrap (c % d * b) = c % d * b := IntWalk.i64_in _ (by omega)
  by_cases hq : Int.tdiv a b = Int.tdiv c d
  · have HL := Lib.hid (show lessB a b c d = decide (a % b * d < c % d * b) by unfold lessB; exact decide_eq_decide.2 (hL.2.2 hq))
    have hne : (Int.tdiv a b != Int.tdiv c d) = false := by simp [hq]
    clear hL e1 hq
    go_enter Try.func19, Try.ntmps19
    go_wp2_with fail
    go_quiet (fail)
    go_wp2_with fail
    go_quiet (fail)
    go_wp2_with fail
    go_ret
    exact Ans.bool (by rw [HL.out]) (by (repeat (first | with_reducible exact Below.refl _ _ | with_reducible assumption | with_reducible refine up_alloc ?_ _ | with_reducible refine up_drew ?_ | with_reducible refine up_drewN ?_ _ | (with_reducible refine up_set ?_ ?hset _; case hset => first | (simp; done) | (simp; omega) | omega) | with_reducible refine up_trans ?_ (by with_reducible assumption))))
  · have hne : (Int.tdiv a b != Int.tdiv c d) = true := by simp [hq]
    have HL := Lib.hid (show lessB a b c d = decide (Int.tdiv a b < Int.tdiv c d) by
      unfold lessB
      refine decide_eq_decide.2 ⟨fun h => ?_, hL.1⟩
      rcases Int.lt_or_gt_of_ne hq with h' | h'
      · exact h'
      · exact absurd h (hL.2.1 h'))
    clear hL e1 hq
    go_enter Try.func19, Try.ntmps19
    go_wp2_with fail
    go_quiet (fail)
    go_wp2_with fail
    go_quiet (fail)
    go_wp2_with fail
    go_ret
    exact Ans.bool (by rw [HL.out]) (by (repeat (first | with_reducible exact Below.refl _ _ | with_reducible assumption | with_reducible refine up_alloc ?_ _ | with_reducible refine up_drew ?_ | with_reducible refine up_drewN ?_ _ | (with_reducible refine up_set ?_ ?hset _; case hset => first | (simp; done) | (simp; omega) | omega) | with_reducible refine up_trans ?_ (by with_reducible assumption))))
/-- Is k among the first n numbers? -/
def hasN (X : Nat → Int) (k : Int) (n : Nat) : Bool := hasB (fun i => X i == k) n
set_option maxHeartbeats 1000000 in
theorem qHas_any (v : Value) (n : Nat) (X : Nat → Int) (k : Int) (w : World) (h : Ints w v n X) (hn : n ≤ 1048576) :
    Calls Try.prog 20 #[v, .int .i64 k] w (Ans w (.bool (hasN X k n))) := by
  obtain ⟨A, c, rfl, hnc, hrow⟩ := h
  go_enter Try.func20, Try.ntmps20
  go_wp2_with fail
  go_loopw [9] (fun i wr => ∃ t : Nat, t ≤ n ∧ i = .int .i64 t ∧ Below w.heap.size w wr ∧ ∀ j, j < t → X j ≠ k) (fun i _ => n - (intOf i).toNat)
  case atStart => exact ⟨0, by omega, rfl, Below.refl _ _, fun j hj => by omega⟩
  case round =>
    obtain ⟨t, ht, rfl, hb, hno⟩ := hrel
    have HNO := Lib.hid hno
    clear hno
    by_cases hlt : t < n
    · obtain ⟨b, o, rfl, hr⟩ := hrow (by omega)
      have c0 := up_keep hb (hr t hlt)
      clear hr hrow
      have jt : (t : Int) < (n : Int) := by omega
      by_cases he : X t = k
      · have hq : (X t == k) = true := by simp [he]
        have HE := Lib.hid (show hasN X k n = true from hasB_iff.2 ⟨t, hlt, hq⟩)
        clear he
        generalize X t = xt at *
        go_wp2_with fail
        go_ret
        exact Ans.bool HE.out.symm hb
      · have hq : (X t == k) = false := by simp [he]
        have HN2 := Lib.hid (show ∀ j, j < t + 1 → X j ≠ k from fun j hj => by
          by_cases e : j = t
          · subst e; exact he
          · exact HNO.out j (by omega))
        clear he
        generalize X t = xt at *
        go_wp2_with fail
        go_roundw
        case rel => exact ⟨t + 1, by omega, by go_num, hb, HN2.out⟩
        case measure => simp [intOf]; omega
    · have e : t = n := by omega
      subst e
      have HE := Lib.hid (show hasN X k t = false by
        cases hh : hasN X k t with
        | false => rfl
        | true =>
          obtain ⟨i, hi, e⟩ := hasB_iff.1 hh
          exact absurd (by simpa using e) (HNO.out i hi))
      go_wp2_with fail
      go_ret
      exact Ans.bool HE.out.symm hb
set_option maxRecDepth 100000 in
set_option maxHeartbeats 4000000 in
theorem iClosestTime_ok (x y u v c x' y' u' v' px py vx vy dot sz : Int) (h : Way x y u v x' y' u' v' px py vx vy dot sz) (hm : moveB x y u v c = true) (hm' : moveB x' y' u' v' c = true) (w : World) :
    Calls Try.prog 8 #[.agg #[.int .i64 x, .int .i64 y, .int .i64 u, .int .i64 v, .int .i64 c], .agg #[.int .i64 x', .int .i64 y', .int .i64 u', .int .i64 v', .int .i64 c]] w (Ans w (.tuple #[.int .i64 (ctA dot sz c), .int .i64 (ctZ dot sz c), .bool true])) := by
  have HT := Lib.hid (goTogether_any x y u v c x' y' u' v' c)
  rw [togB_iff.2 ⟨⟨hm, hm'⟩, rfl⟩] at HT
  have HB := Lib.hid (between_any x y u v c x' y' u' v' c px py vx vy dot sz h hm hm')
  obtain ⟨p1, p2, p3, p4, v1, v2, v3, v4, a1, a2, b1, b2, c1, c2, d1, d2, e1, e2, f1, f2, g1, g2, h1, h2⟩ := h.bd hm hm'
  have hc := (moveB_iff.1 hm).2
  have k5 := h.k5
  have k6 := h.k6
  have dlo : -4179968 ≤ dot ∧ dot ≤ 4179968 := by omega
  have slo : 0 ≤ sz ∧ sz ≤ 8359936 := by omega
  have mb := mul_bd (a := -dot) (b := c) (A := 4179968) (B := 64) (by omega) (by omega) (by omega) (by omega)
  clear k5 k6 h hm hm' p1 p2 p3 p4 v1 v2 v3 v4 a1 a2 b1 b2 c1 c2 d1 d2 e1 e2 f1 f2 g1 g2 h1 h2
  have HA := Lib.hid (show ctA dot sz c = if 0 ≤ dot then 0 else if sz ≤ -dot then c else lowA (-dot * c) sz from rfl)
  have HZ := Lib.hid (show ctZ dot sz c = if 0 ≤ dot then 1 else if sz ≤ -dot then 1 else lowB (-dot * c) sz from rfl)
  obtain ⟨m1, m2⟩ := mb
  by_cases hd : 0 ≤ dot
  · have jd : dot ≥ 0 := hd
    go_enter Try.func8, Try.ntmps8
    go_wp2_with fail
    generalize hWx : World.alloc (World.alloc w _) _ = W0
    have hb0 : Below w.heap.size w W0 := by subst hWx; exact (below_alloc _ _).trans ((below_alloc _ _).mono (by simp))
    have hz0 : w.heap.size + 1 < W0.heap.size := by subst hWx; simp
    have m0 : MC W0 w.heap.size x y u v c := by subst hWx; exact ⟨by simp [go_sem], by simp [go_sem], by simp [go_sem], by simp [go_sem], by simp [go_sem]⟩
    have m1 : MC W0 (w.heap.size + 1) x' y' u' v' c := by subst hWx; exact ⟨by simp [go_sem], by simp [go_sem], by simp [go_sem], by simp [go_sem], by simp [go_sem]⟩
    clear hWx
    refine (HT.out _).mono ?_
    rintro e w1 ⟨rfl, hb1⟩
    have hz1 := hb1.size
    replace m0 := m0.up hb1
    replace m1 := m1.up hb1
    obtain ⟨i0, i1, i2, i3, i4⟩ := id m0
    obtain ⟨j0, j1, j2, j3, j4⟩ := id m1
    go_wp2_with fail
    refine (HB.out _).mono ?_
    rintro e w2 ⟨rfl, hb2⟩
    have hz2 := hb2.size
    have hz3 : w.heap.size < w2.heap.size := by omega
    have i4 := (m0.up hb2).c4
    clear i0 i1 i2 i3 j0 j1 j2 j3 j4 m0 m1
    go_wp2_with fail
    go_ret3
    rw [HA.out, HZ.out, if_pos hd, if_pos hd]
    exact ⟨rfl, up_trans (up_trans (up_trans hb0 hb1) hb2) (by (repeat (first | with_reducible exact Below.refl _ _ | with_reducible assumption | with_reducible refine up_alloc ?_ _ | with_reducible refine up_drew ?_ | with_reducible refine up_drewN ?_ _ | (with_reducible refine up_set ?_ ?hset _; case hset => first | (simp; done) | (simp; omega) | omega) | with_reducible refine up_trans ?_ (by with_reducible assumption))))⟩
  · by_cases hs : sz ≤ -dot
    · have jd : ¬ dot ≥ 0 := by omega
      have js : -dot ≥ sz := hs
      go_enter Try.func8, Try.ntmps8
      go_wp2_with fail
      generalize hWx : World.alloc (World.alloc w _) _ = W0
      have hb0 : Below w.heap.size w W0 := by subst hWx; exact (below_alloc _ _).trans ((below_alloc _ _).mono (by simp))
      have hz0 : w.heap.size + 1 < W0.heap.size := by subst hWx; simp
      have m0 : MC W0 w.heap.size x y u v c := by subst hWx; exact ⟨by simp [go_sem], by simp [go_sem], by simp [go_sem], by simp [go_sem], by simp [go_sem]⟩
      have m1 : MC W0 (w.heap.size + 1) x' y' u' v' c := by subst hWx; exact ⟨by simp [go_sem], by simp [go_sem], by simp [go_sem], by simp [go_sem], by simp [go_sem]⟩
      clear hWx
      refine (HT.out _).mono ?_
      rintro e w1 ⟨rfl, hb1⟩
      have hz1 := hb1.size
      replace m0 := m0.up hb1
      replace m1 := m1.up hb1
      obtain ⟨i0, i1, i2, i3, i4⟩ := id m0
      obtain ⟨j0, j1, j2, j3, j4⟩ := id m1
      go_wp2_with fail
      refine (HB.out _).mono ?_
      rintro e w2 ⟨rfl, hb2⟩
      have hz2 := hb2.size
      have hz3 : w.heap.size < w2.heap.size := by omega
      have i4 := (m0.up hb2).c4
      clear i0 i1 i2 i3 j0 j1 j2 j3 j4 m0 m1
      go_wp2_with fail
      go_ret3
      rw [HA.out, HZ.out, if_neg (by omega : ¬ 0 ≤ dot), if_neg (by omega : ¬ 0 ≤ dot), if_pos hs, if_pos hs]
      exact ⟨rfl, up_trans (up_trans (up_trans hb0 hb1) hb2) (by (repeat (first | with_reducible exact Below.refl _ _ | with_reducible assumption | with_reducible refine up_alloc ?_ _ | with_reducible refine up_drew ?_ | with_reducible refine up_drewN ?_ _ | (with_reducible refine up_set ?_ ?hset _; case hset => first | (simp; done) | (simp; omega) | omega) | with_reducible refine up_trans ?_ (by with_reducible assumption))))⟩
    · have jd : ¬ dot ≥ 0 := by omega
      have js : ¬ -dot ≥ sz := by omega
      have hn : 0 ≤ -dot * c := Int.mul_nonneg (by omega) (by omega)
      have HLo := Lib.hid (lowestTerms_any (-dot * c) sz hn (by omega) (by omega) (by omega))
      go_enter Try.func8, Try.ntmps8
      go_wp2_with fail
      generalize hWx : World.alloc (World.alloc w _) _ = W0
      have hb0 : Below w.heap.size w W0 := by subst hWx; exact (below_alloc _ _).trans ((below_alloc _ _).mono (by simp))
      have hz0 : w.heap.size + 1 < W0.heap.size := by subst hWx; simp
      have m0 : MC W0 w.heap.size x y u v c := by subst hWx; exact ⟨by simp [go_sem], by simp [go_sem], by simp [go_sem], by simp [go_sem], by simp [go_sem]⟩
      have m1 : MC W0 (w.heap.size + 1) x' y' u' v' c := by subst hWx; exact ⟨by simp [go_sem], by simp [go_sem], by simp [go_sem], by simp [go_sem], by simp [go_sem]⟩
      clear hWx
      refine (HT.out _).mono ?_
      rintro e w1 ⟨rfl, hb1⟩
      have hz1 := hb1.size
      replace m0 := m0.up hb1
      replace m1 := m1.up hb1
      obtain ⟨i0, i1, i2, i3, i4⟩ := id m0
      obtain ⟨j0, j1, j2, j3, j4⟩ := id m1
      go_wp2_with fail
      refine (HB.out _).mono ?_
      rintro e w2 ⟨rfl, hb2⟩
      have hz2 := hb2.size
      have hz3 : w.heap.size < w2.heap.size := by omega
      have i4 := (m0.up hb2).c4
      clear i0 i1 i2 i3 j0 j1 j2 j3 j4 m0 m1
      go_wp2_with fail
      refine (HLo.out _).mono ?_
      rintro e w3 ⟨rfl, hb3⟩
      go_wp2_with fail
      go_ret3
      rw [HA.out, HZ.out, if_neg (by omega : ¬ 0 ≤ dot), if_neg (by omega : ¬ 0 ≤ dot), if_neg (by omega : ¬ sz ≤ -dot), if_neg (by omega : ¬ sz ≤ -dot)]
      exact ⟨rfl, up_trans (up_trans (up_trans hb0 hb1) hb2) (up_trans (by (repeat (first | with_reducible exact Below.refl _ _ | with_reducible assumption | with_reducible refine up_alloc ?_ _ | with_reducible refine up_drew ?_ | with_reducible refine up_drewN ?_ _ | (with_reducible refine up_set ?_ ?hset _; case hset => first | (simp; done) | (simp; omega) | omega) | with_reducible refine up_trans ?_ (by with_reducible assumption)))) hb3)⟩
end Go.Proofs.Ytljdhicmcmppgaa
