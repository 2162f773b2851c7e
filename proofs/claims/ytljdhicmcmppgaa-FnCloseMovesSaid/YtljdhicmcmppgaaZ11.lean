/- Words and contracts, part 11. -/
import Derived.Test.YtljdhicmcmppgaaRows
import Derived.Deep.QuietTactic
import Derived.Deep.CutRange
import Derived.Deep.DeepCutAuto
import Derived.BigQuiet
import Derived.Test.YtljdhicmcmppgaaZ10
namespace Go.Proofs.Ytljdhicmcmppgaa
open Go.RowKit Go.ChangeShapes Go.WideShapes Go.Sort

set_option maxRecDepth 100000 in
set_option maxHeartbeats 8000000 in
theorem iWaysCross_any (x y u v c x' y' u' v' c' : Int) (w : World) :
    Calls Try.prog 30 #[.agg #[.int .i64 x, .int .i64 y, .int .i64 u, .int .i64 v, .int .i64 c], .agg #[.int .i64 x', .int .i64 y', .int .i64 u', .int .i64 v', .int .i64 c']] w (Ans w (wcV x y u v c x' y' u' v' c')) := by
  have HT := Lib.hid (goTogether_any x y u v c x' y' u' v' c')
  cases ht : togB x y u v c x' y' u' v' c' with
  | false =>
    have HV := Lib.hid (show wcV x y u v c x' y' u' v' c' = .tuple #[.bool false, .bool false] by simp [wcV, ht])
    rw [ht] at HT
    clear ht
    go_enter Try.func30, Try.ntmps30
    go_wp2_with (first | (go_at_call 34; refine (from0 (HT.out _) (by first | exact hb0 | exact up_alloc hb0 _ | exact up_drew hb0 | exact up_drewN hb0 _ | exact Below.refl _ _)).mono ?_; rintro e w1 ⟨rfl, hb0⟩; obtain ⟨hc0, hf0⟩ := bcell hb0; have hz0 := hb0.size; simp at hz0; have hz1 : w.heap.size < w1.heap.size := (by omega); try have hz2 : w.heap.size + 1 < w1.heap.size := (by omega)))
    go_ret2
    rw [HV.out]
    exact ⟨rfl, by (repeat (first | with_reducible exact Below.refl _ _ | with_reducible assumption | with_reducible refine up_alloc ?_ _ | with_reducible refine up_drew ?_ | with_reducible refine up_drewN ?_ _ | (with_reducible refine up_set ?_ ?hset _; case hset => first | (simp; done) | (simp; omega) | omega) | with_reducible refine up_trans ?_ (by with_reducible assumption)))⟩
  | true =>
    have HV := Lib.hid (show wcV x y u v c x' y' u' v' c' = .tuple #[.bool (wcB x y u v x' y' u' v'), .bool true] by simp [wcV, ht])
    rw [ht] at HT
    have hm := togB_iff.1 ht
    obtain ⟨sa, sb⟩ := (moveB_iff.1 hm.1.1).1
    obtain ⟨sc, sd⟩ := (moveB_iff.1 hm.1.2).1
    clear hm ht
    have HO0 := Lib.hid (onWay_any x y u v x' y' sa sb sc)
    have HX0 := Lib.hid (fun W => crossOf_any x y u v x' y' sa sb sc W)
    have HO1 := Lib.hid (onWay_any x y u v u' v' sa sb sd)
    have HX1 := Lib.hid (fun W => crossOf_any x y u v u' v' sa sb sd W)
    have HO2 := Lib.hid (onWay_any x' y' u' v' x y sc sd sa)
    have HX2 := Lib.hid (fun W => crossOf_any x' y' u' v' x y sc sd sa W)
    have HO3 := Lib.hid (onWay_any x' y' u' v' u v sc sd sb)
    have HX3 := Lib.hid (fun W => crossOf_any x' y' u' v' u v sc sd sb W)
    have HB := Lib.hid (show wcB x y u v x' y' u' v' = ((((onB x y u v x' y' || onB x y u v u' v') || onB x' y' u' v' x y) || onB x' y' u' v' u v) || (decide (sgn (crs x y u v x' y') * sgn (crs x y u v u' v') < 0) && decide (sgn (crs x' y' u' v' x y) * sgn (crs x' y' u' v' u v) < 0))) from rfl)
    generalize onB x y u v x' y' = r0 at *
    generalize crs x y u v x' y' = k0 at *
    generalize onB x y u v u' v' = r1 at *
    generalize crs x y u v u' v' = k1 at *
    generalize onB x' y' u' v' x y = r2 at *
    generalize crs x' y' u' v' x y = k2 at *
    generalize onB x' y' u' v' u v = r3 at *
    generalize crs x' y' u' v' u v = k3 at *
    clear sa sb sc sd
    cases r0 with
    | true =>
      go_enter Try.func30, Try.ntmps30
      go_wp2_with fail
      generalize hWx : World.alloc (World.alloc w _) _ = W
      have hbW : Below w.heap.size w W := by subst hWx; exact (below_alloc _ _).trans ((below_alloc _ _).mono (by simp))
      have hz1 : w.heap.size + 1 < W.heap.size := by subst hWx; simp
      have hz0 : w.heap.size < W.heap.size := by omega
      have m0 : MC W w.heap.size x y u v c := by subst hWx; exact ⟨by simp [go_sem], by simp [go_sem], by simp [go_sem], by simp [go_sem], by simp [go_sem]⟩
      have m1 : MC W (w.heap.size + 1) x' y' u' v' c' := by subst hWx; exact ⟨by simp [go_sem], by simp [go_sem], by simp [go_sem], by simp [go_sem], by simp [go_sem]⟩
      clear hWx
      obtain ⟨i0, i1, i2, i3, i4⟩ := id m0
      obtain ⟨j0, j1, j2, j3, j4⟩ := id m1
      refine (HT.out _).mono ?_
      rintro e w1 ⟨rfl, hb0⟩
      obtain ⟨hc0, hf0⟩ := bcell hb0
      go_wp2_with (first | (go_at_call 59; (with_reducible show Calls Try.prog _ #[.agg #[.int .i64 x, .int .i64 y], .agg #[.int .i64 u, .int .i64 v], .agg #[.int .i64 x', .int .i64 y']] _ _); refine (from0 (HO0.out _) (by first | exact hb0 | exact up_alloc hb0 _ | exact up_drew hb0 | exact up_drewN hb0 _ | exact Below.refl _ _)).mono ?_; rintro e w1 ⟨rfl, hb0⟩; obtain ⟨hc0, hf0⟩ := bcell hb0) | (go_at_call 59; (with_reducible show Calls Try.prog _ #[.agg #[.int .i64 x, .int .i64 y], .agg #[.int .i64 u, .int .i64 v], .agg #[.int .i64 u', .int .i64 v']] _ _); refine (from0 (HO1.out _) (by first | exact hb0 | exact up_alloc hb0 _ | exact up_drew hb0 | exact up_drewN hb0 _ | exact Below.refl _ _)).mono ?_; rintro e w1 ⟨rfl, hb0⟩; obtain ⟨hc0, hf0⟩ := bcell hb0) | (go_at_call 59; (with_reducible show Calls Try.prog _ #[.agg #[.int .i64 x', .int .i64 y'], .agg #[.int .i64 u', .int .i64 v'], .agg #[.int .i64 x, .int .i64 y]] _ _); refine (from0 (HO2.out _) (by first | exact hb0 | exact up_alloc hb0 _ | exact up_drew hb0 | exact up_drewN hb0 _ | exact Below.refl _ _)).mono ?_; rintro e w1 ⟨rfl, hb0⟩; obtain ⟨hc0, hf0⟩ := bcell hb0) | (go_at_call 59; (with_reducible show Calls Try.prog _ #[.agg #[.int .i64 x', .int .i64 y'], .agg #[.int .i64 u', .int .i64 v'], .agg #[.int .i64 u, .int .i64 v]] _ _); refine (from0 (HO3.out _) (by first | exact hb0 | exact up_alloc hb0 _ | exact up_drew hb0 | exact up_drewN hb0 _ | exact Below.refl _ _)).mono ?_; rintro e w1 ⟨rfl, hb0⟩; obtain ⟨hc0, hf0⟩ := bcell hb0))
      go_ret2
      rw [HV.out, HB.out]
      exact ⟨by simp, up_trans hbW (by (repeat (first | with_reducible exact Below.refl _ _ | with_reducible assumption | with_reducible refine up_alloc ?_ _ | with_reducible refine up_drew ?_ | with_reducible refine up_drewN ?_ _ | (with_reducible refine up_set ?_ ?hset _; case hset => first | (simp; done) | (simp; omega) | omega) | with_reducible refine up_trans ?_ (by with_reducible assumption))))⟩
    | false =>
      cases r1 with
      | true =>
        go_enter Try.func30, Try.ntmps30
        go_wp2_with fail
        generalize hWx : World.alloc (World.alloc w _) _ = W
        have hbW : Below w.heap.size w W := by subst hWx; exact (below_alloc _ _).trans ((below_alloc _ _).mono (by simp))
        have hz1 : w.heap.size + 1 < W.heap.size := by subst hWx; simp
        have hz0 : w.heap.size < W.heap.size := by omega
        have m0 : MC W w.heap.size x y u v c := by subst hWx; exact ⟨by simp [go_sem], by simp [go_sem], by simp [go_sem], by simp [go_sem], by simp [go_sem]⟩
        have m1 : MC W (w.heap.size + 1) x' y' u' v' c' := by subst hWx; exact ⟨by simp [go_sem], by simp [go_sem], by simp [go_sem], by simp [go_sem], by simp [go_sem]⟩
        clear hWx
        obtain ⟨i0, i1, i2, i3, i4⟩ := id m0
        obtain ⟨j0, j1, j2, j3, j4⟩ := id m1
        refine (HT.out _).mono ?_
        rintro e w1 ⟨rfl, hb0⟩
        obtain ⟨hc0, hf0⟩ := bcell hb0
        go_wp2_with (first | (go_at_call 59; (with_reducible show Calls Try.prog _ #[.agg #[.int .i64 x, .int .i64 y], .agg #[.int .i64 u, .int .i64 v], .agg #[.int .i64 x', .int .i64 y']] _ _); refine (from0 (HO0.out _) (by first | exact hb0 | exact up_alloc hb0 _ | exact up_drew hb0 | exact up_drewN hb0 _ | exact Below.refl _ _)).mono ?_; rintro e w1 ⟨rfl, hb0⟩; obtain ⟨hc0, hf0⟩ := bcell hb0) | (go_at_call 59; (with_reducible show Calls Try.prog _ #[.agg #[.int .i64 x, .int .i64 y], .agg #[.int .i64 u, .int .i64 v], .agg #[.int .i64 u', .int .i64 v']] _ _); refine (from0 (HO1.out _) (by first | exact hb0 | exact up_alloc hb0 _ | exact up_drew hb0 | exact up_drewN hb0 _ | exact Below.refl _ _)).mono ?_; rintro e w1 ⟨rfl, hb0⟩; obtain ⟨hc0, hf0⟩ := bcell hb0) | (go_at_call 59; (with_reducible show Calls Try.prog _ #[.agg #[.int .i64 x', .int .i64 y'], .agg #[.int .i64 u', .int .i64 v'], .agg #[.int .i64 x, .int .i64 y]] _ _); refine (from0 (HO2.out _) (by first | exact hb0 | exact up_alloc hb0 _ | exact up_drew hb0 | exact up_drewN hb0 _ | exact Below.refl _ _)).mono ?_; rintro e w1 ⟨rfl, hb0⟩; obtain ⟨hc0, hf0⟩ := bcell hb0) | (go_at_call 59; (with_reducible show Calls Try.prog _ #[.agg #[.int .i64 x', .int .i64 y'], .agg #[.int .i64 u', .int .i64 v'], .agg #[.int .i64 u, .int .i64 v]] _ _); refine (from0 (HO3.out _) (by first | exact hb0 | exact up_alloc hb0 _ | exact up_drew hb0 | exact up_drewN hb0 _ | exact Below.refl _ _)).mono ?_; rintro e w1 ⟨rfl, hb0⟩; obtain ⟨hc0, hf0⟩ := bcell hb0))
        go_ret2
        rw [HV.out, HB.out]
        exact ⟨by simp, up_trans hbW (by (repeat (first | with_reducible exact Below.refl _ _ | with_reducible assumption | with_reducible refine up_alloc ?_ _ | with_reducible refine up_drew ?_ | with_reducible refine up_drewN ?_ _ | (with_reducible refine up_set ?_ ?hset _; case hset => first | (simp; done) | (simp; omega) | omega) | with_reducible refine up_trans ?_ (by with_reducible assumption))))⟩
      | false =>
        cases r2 with
        | true =>
          go_enter Try.func30, Try.ntmps30
          go_wp2_with fail
          generalize hWx : World.alloc (World.alloc w _) _ = W
          have hbW : Below w.heap.size w W := by subst hWx; exact (below_alloc _ _).trans ((below_alloc _ _).mono (by simp))
          have hz1 : w.heap.size + 1 < W.heap.size := by subst hWx; simp
          have hz0 : w.heap.size < W.heap.size := by omega
          have m0 : MC W w.heap.size x y u v c := by subst hWx; exact ⟨by simp [go_sem], by simp [go_sem], by simp [go_sem], by simp [go_sem], by simp [go_sem]⟩
          have m1 : MC W (w.heap.size + 1) x' y' u' v' c' := by subst hWx; exact ⟨by simp [go_sem], by simp [go_sem], by simp [go_sem], by simp [go_sem], by simp [go_sem]⟩
          clear hWx
          obtain ⟨i0, i1, i2, i3, i4⟩ := id m0
          obtain ⟨j0, j1, j2, j3, j4⟩ := id m1
          refine (HT.out _).mono ?_
          rintro e w1 ⟨rfl, hb0⟩
          obtain ⟨hc0, hf0⟩ := bcell hb0
          go_wp2_with (first | (go_at_call 59; (with_reducible show Calls Try.prog _ #[.agg #[.int .i64 x, .int .i64 y], .agg #[.int .i64 u, .int .i64 v], .agg #[.int .i64 x', .int .i64 y']] _ _); refine (from0 (HO0.out _) (by first | exact hb0 | exact up_alloc hb0 _ | exact up_drew hb0 | exact up_drewN hb0 _ | exact Below.refl _ _)).mono ?_; rintro e w1 ⟨rfl, hb0⟩; obtain ⟨hc0, hf0⟩ := bcell hb0) | (go_at_call 59; (with_reducible show Calls Try.prog _ #[.agg #[.int .i64 x, .int .i64 y], .agg #[.int .i64 u, .int .i64 v], .agg #[.int .i64 u', .int .i64 v']] _ _); refine (from0 (HO1.out _) (by first | exact hb0 | exact up_alloc hb0 _ | exact up_drew hb0 | exact up_drewN hb0 _ | exact Below.refl _ _)).mono ?_; rintro e w1 ⟨rfl, hb0⟩; obtain ⟨hc0, hf0⟩ := bcell hb0) | (go_at_call 59; (with_reducible show Calls Try.prog _ #[.agg #[.int .i64 x', .int .i64 y'], .agg #[.int .i64 u', .int .i64 v'], .agg #[.int .i64 x, .int .i64 y]] _ _); refine (from0 (HO2.out _) (by first | exact hb0 | exact up_alloc hb0 _ | exact up_drew hb0 | exact up_drewN hb0 _ | exact Below.refl _ _)).mono ?_; rintro e w1 ⟨rfl, hb0⟩; obtain ⟨hc0, hf0⟩ := bcell hb0) | (go_at_call 59; (with_reducible show Calls Try.prog _ #[.agg #[.int .i64 x', .int .i64 y'], .agg #[.int .i64 u', .int .i64 v'], .agg #[.int .i64 u, .int .i64 v]] _ _); refine (from0 (HO3.out _) (by first | exact hb0 | exact up_alloc hb0 _ | exact up_drew hb0 | exact up_drewN hb0 _ | exact Below.refl _ _)).mono ?_; rintro e w1 ⟨rfl, hb0⟩; obtain ⟨hc0, hf0⟩ := bcell hb0))
          go_ret2
          rw [HV.out, HB.out]
          exact ⟨by simp, up_trans hbW (by (repeat (first | with_reducible exact Below.refl _ _ | with_reducible assumption | with_reducible refine up_alloc ?_ _ | with_reducible refine up_drew ?_ | with_reducible refine up_drewN ?_ _ | (with_reducible refine up_set ?_ ?hset _; case hset => first | (simp; done) | (simp; omega) | omega) | with_reducible refine up_trans ?_ (by with_reducible assumption))))⟩
        | false =>
          cases r3 with
          | true =>
            go_enter Try.func30, Try.ntmps30
            go_wp2_with fail
            generalize hWx : World.alloc (World.alloc w _) _ = W
            have hbW : Below w.heap.size w W := by subst hWx; exact (below_alloc _ _).trans ((below_alloc _ _).mono (by simp))
            have hz1 : w.heap.size + 1 < W.heap.size := by subst hWx; simp
            have hz0 : w.heap.size < W.heap.size := by omega
            have m0 : MC W w.heap.size x y u v c := by subst hWx; exact ⟨by simp [go_sem], by simp [go_sem], by simp [go_sem], by simp [go_sem], by simp [go_sem]⟩
            have m1 : MC W (w.heap.size + 1) x' y' u' v' c' := by subst hWx; exact ⟨by simp [go_sem], by simp [go_sem], by simp [go_sem], by simp [go_sem], by simp [go_sem]⟩
            clear hWx
            obtain ⟨i0, i1, i2, i3, i4⟩ := id m0
            obtain ⟨j0, j1, j2, j3, j4⟩ := id m1
            refine (HT.out _).mono ?_
            rintro e w1 ⟨rfl, hb0⟩
            obtain ⟨hc0, hf0⟩ := bcell hb0
            go_wp2_with (first | (go_at_call 59; (with_reducible show Calls Try.prog _ #[.agg #[.int .i64 x, .int .i64 y], .agg #[.int .i64 u, .int .i64 v], .agg #[.int .i64 x', .int .i64 y']] _ _); refine (from0 (HO0.out _) (by first | exact hb0 | exact up_alloc hb0 _ | exact up_drew hb0 | exact up_drewN hb0 _ | exact Below.refl _ _)).mono ?_; rintro e w1 ⟨rfl, hb0⟩; obtain ⟨hc0, hf0⟩ := bcell hb0) | (go_at_call 59; (with_reducible show Calls Try.prog _ #[.agg #[.int .i64 x, .int .i64 y], .agg #[.int .i64 u, .int .i64 v], .agg #[.int .i64 u', .int .i64 v']] _ _); refine (from0 (HO1.out _) (by first | exact hb0 | exact up_alloc hb0 _ | exact up_drew hb0 | exact up_drewN hb0 _ | exact Below.refl _ _)).mono ?_; rintro e w1 ⟨rfl, hb0⟩; obtain ⟨hc0, hf0⟩ := bcell hb0) | (go_at_call 59; (with_reducible show Calls Try.prog _ #[.agg #[.int .i64 x', .int .i64 y'], .agg #[.int .i64 u', .int .i64 v'], .agg #[.int .i64 x, .int .i64 y]] _ _); refine (from0 (HO2.out _) (by first | exact hb0 | exact up_alloc hb0 _ | exact up_drew hb0 | exact up_drewN hb0 _ | exact Below.refl _ _)).mono ?_; rintro e w1 ⟨rfl, hb0⟩; obtain ⟨hc0, hf0⟩ := bcell hb0) | (go_at_call 59; (with_reducible show Calls Try.prog _ #[.agg #[.int .i64 x', .int .i64 y'], .agg #[.int .i64 u', .int .i64 v'], .agg #[.int .i64 u, .int .i64 v]] _ _); refine (from0 (HO3.out _) (by first | exact hb0 | exact up_alloc hb0 _ | exact up_drew hb0 | exact up_drewN hb0 _ | exact Below.refl _ _)).mono ?_; rintro e w1 ⟨rfl, hb0⟩; obtain ⟨hc0, hf0⟩ := bcell hb0))
            go_ret2
            rw [HV.out, HB.out]
            exact ⟨by simp, up_trans hbW (by (repeat (first | with_reducible exact Below.refl _ _ | with_reducible assumption | with_reducible refine up_alloc ?_ _ | with_reducible refine up_drew ?_ | with_reducible refine up_drewN ?_ _ | (with_reducible refine up_set ?_ ?hset _; case hset => first | (simp; done) | (simp; omega) | omega) | with_reducible refine up_trans ?_ (by with_reducible assumption))))⟩
          | false =>
            go_enter Try.func30, Try.ntmps30
            go_wp2_with fail
            generalize hWx : World.alloc (World.alloc w _) _ = W
            have hbW : Below w.heap.size w W := by subst hWx; exact (below_alloc _ _).trans ((below_alloc _ _).mono (by simp))
            have hz1 : w.heap.size + 1 < W.heap.size := by subst hWx; simp
            have hz0 : w.heap.size < W.heap.size := by omega
            have m0 : MC W w.heap.size x y u v c := by subst hWx; exact ⟨by simp [go_sem], by simp [go_sem], by simp [go_sem], by simp [go_sem], by simp [go_sem]⟩
            have m1 : MC W (w.heap.size + 1) x' y' u' v' c' := by subst hWx; exact ⟨by simp [go_sem], by simp [go_sem], by simp [go_sem], by simp [go_sem], by simp [go_sem]⟩
            clear hWx
            obtain ⟨i0, i1, i2, i3, i4⟩ := id m0
            obtain ⟨j0, j1, j2, j3, j4⟩ := id m1
            refine (HT.out _).mono ?_
            rintro e w1 ⟨rfl, hb0⟩
            obtain ⟨hc0, hf0⟩ := bcell hb0
            go_upto_region 5 with (first | (go_at_call 59; (with_reducible show Calls Try.prog _ #[.agg #[.int .i64 x, .int .i64 y], .agg #[.int .i64 u, .int .i64 v], .agg #[.int .i64 x', .int .i64 y']] _ _); refine (from0 (HO0.out _) (by first | exact hb0 | exact up_alloc hb0 _ | exact up_drew hb0 | exact up_drewN hb0 _ | exact Below.refl _ _)).mono ?_; rintro e w1 ⟨rfl, hb0⟩; obtain ⟨hc0, hf0⟩ := bcell hb0) | (go_at_call 59; (with_reducible show Calls Try.prog _ #[.agg #[.int .i64 x, .int .i64 y], .agg #[.int .i64 u, .int .i64 v], .agg #[.int .i64 u', .int .i64 v']] _ _); refine (from0 (HO1.out _) (by first | exact hb0 | exact up_alloc hb0 _ | exact up_drew hb0 | exact up_drewN hb0 _ | exact Below.refl _ _)).mono ?_; rintro e w1 ⟨rfl, hb0⟩; obtain ⟨hc0, hf0⟩ := bcell hb0) | (go_at_call 59; (with_reducible show Calls Try.prog _ #[.agg #[.int .i64 x', .int .i64 y'], .agg #[.int .i64 u', .int .i64 v'], .agg #[.int .i64 x, .int .i64 y]] _ _); refine (from0 (HO2.out _) (by first | exact hb0 | exact up_alloc hb0 _ | exact up_drew hb0 | exact up_drewN hb0 _ | exact Below.refl _ _)).mono ?_; rintro e w1 ⟨rfl, hb0⟩; obtain ⟨hc0, hf0⟩ := bcell hb0) | (go_at_call 59; (with_reducible show Calls Try.prog _ #[.agg #[.int .i64 x', .int .i64 y'], .agg #[.int .i64 u', .int .i64 v'], .agg #[.int .i64 u, .int .i64 v]] _ _); refine (from0 (HO3.out _) (by first | exact hb0 | exact up_alloc hb0 _ | exact up_drew hb0 | exact up_drewN hb0 _ | exact Below.refl _ _)).mono ?_; rintro e w1 ⟨rfl, hb0⟩; obtain ⟨hc0, hf0⟩ := bcell hb0))
            obtain ⟨s0a, s0b⟩ := (sgn_eq k0).2
            obtain ⟨s1a, s1b⟩ := (sgn_eq k1).2
            obtain ⟨s2a, s2b⟩ := (sgn_eq k2).2
            obtain ⟨s3a, s3b⟩ := (sgn_eq k3).2
            obtain ⟨wB, hwB⟩ : ∃ W : World, W = w1 := ⟨_, rfl⟩
            rw [← hwB] at hb0 hc0 hf0 ⊢
            clear hwB
            have M0 := m0.up hb0
            have M1 := m1.up hb0
            have HSg := Lib.hid (fun k W => sideOf_any k W)
            have hbB := up_trans hbW hb0
            have q1 := mul_bd (a := sgn k0) (b := sgn k1) (A := 1) (B := 1) (by omega) (by omega) (by omega) (by omega)
            have q2 := mul_bd (a := sgn k2) (b := sgn k3) (A := 1) (B := 1) (by omega) (by omega) (by omega) (by omega)
            have w5 : IntKind.i64.wrap (sgn k0 * sgn k1) = sgn k0 * sgn k1 := IntWalk.i64_in _ (by omega)
            have w6 : IntKind.i64.wrap (sgn k2 * sgn k3) = sgn k2 * sgn k3 := IntWalk.i64_in _ (by omega)
            clear i0 i1 i2 i3 i4 j0 j1 j2 j3 j4 m0 m1 hb0 hc0 hf0 q1 q2
            have c0 := cell_regrown M0.c0
            have c1 := cell_regrown M0.c1
            have c2 := cell_regrown M0.c2
            have c3 := cell_regrown M0.c3
            have c4 := cell_regrown M1.c0
            have c5 := cell_regrown M1.c1
            have c6 := cell_regrown M1.c2
            have c7 := cell_regrown M1.c3
            refine wp_region_up (by kernel_rfl) (by kernel_rfl) ?_
            repeat (go_big_quiet_step (first | (with_reducible exact up_of (fun W _ => HX0.out W) _ _) | (with_reducible exact up_of (fun W _ => HX1.out W) _ _) | (with_reducible exact up_same (HSg.out k0) _ _) | (with_reducible exact up_same (HSg.out k1) _ _)))
            refine wpQuiet_nil ?_
            intro w1 hb0
            obtain ⟨hc0, hf0⟩ := bcell hb0
            clear c0 c1 c2 c3 c4 c5 c6 c7 hc0 hf0
            obtain ⟨wC, hwC⟩ : ∃ W : World, W = w1 := ⟨_, rfl⟩
            rw [← hwC] at hb0 ⊢
            clear hwC
            replace M0 := M0.up hb0
            replace M1 := M1.up hb0
            have hbC := up_trans hbB hb0
            clear hb0
            go_upto_region 6 with fail
            have c0 := cell_regrown M0.c0
            have c1 := cell_regrown M0.c1
            have c2 := cell_regrown M0.c2
            have c3 := cell_regrown M0.c3
            have c4 := cell_regrown M1.c0
            have c5 := cell_regrown M1.c1
            have c6 := cell_regrown M1.c2
            have c7 := cell_regrown M1.c3
            refine wp_region_up (by kernel_rfl) (by kernel_rfl) ?_
            repeat (go_big_quiet_step (first | (with_reducible exact up_of (fun W _ => HX2.out W) _ _) | (with_reducible exact up_of (fun W _ => HX3.out W) _ _) | (with_reducible exact up_same (HSg.out k2) _ _) | (with_reducible exact up_same (HSg.out k3) _ _)))
            refine wpQuiet_nil ?_
            intro w1 hb0
            obtain ⟨hc0, hf0⟩ := bcell hb0
            clear c0 c1 c2 c3 c4 c5 c6 c7 hc0 hf0
            go_wp2_with fail
            all_goals
              go_ret2
              rw [HV.out, HB.out]
              exact ⟨by first | (simp [*]; done) | (simp [*]; omega), up_trans hbC hb0⟩
end Go.Proofs.Ytljdhicmcmppgaa
namespace Go.Proofs.Ytljdhicmcmppgaa
open Go.RowKit Go.ChangeShapes Go.WideShapes Go.Sort

set_option maxRecDepth 100000 in
set_option maxHeartbeats 8000000 in
theorem sWaysCross_any (x y u v c x' y' u' v' c' : Int) (w : World) :
    Calls Try.prog 31 #[.agg #[.int .i64 x, .int .i64 y, .int .i64 u, .int .i64 v, .int .i64 c], .agg #[.int .i64 x', .int .i64 y', .int .i64 u', .int .i64 v', .int .i64 c']] w (Ans w (wcV x y u v c x' y' u' v' c')) := by
  have HT := Lib.hid (apGood_any x y u v c x' y' u' v' c')
  cases ht : togB x y u v c x' y' u' v' c' with
  | false =>
    have HV := Lib.hid (show wcV x y u v c x' y' u' v' c' = .tuple #[.bool false, .bool false] by simp [wcV, ht])
    rw [ht] at HT
    clear ht
    go_enter Try.func31, Try.ntmps31
    go_wp2_with (first | (go_at_call 36; refine (from0 (HT.out _) (by first | exact hb0 | exact up_alloc hb0 _ | exact up_drew hb0 | exact up_drewN hb0 _ | exact Below.refl _ _)).mono ?_; rintro e w1 ⟨rfl, hb0⟩; obtain ⟨hc0, hf0⟩ := bcell hb0; have hz0 := hb0.size; simp at hz0; have hz1 : w.heap.size < w1.heap.size := (by omega); try have hz2 : w.heap.size + 1 < w1.heap.size := (by omega)))
    go_ret2
    rw [HV.out]
    exact ⟨rfl, by (repeat (first | with_reducible exact Below.refl _ _ | with_reducible assumption | with_reducible refine up_alloc ?_ _ | with_reducible refine up_drew ?_ | with_reducible refine up_drewN ?_ _ | (with_reducible refine up_set ?_ ?hset _; case hset => first | (simp; done) | (simp; omega) | omega) | with_reducible refine up_trans ?_ (by with_reducible assumption)))⟩
  | true =>
    have HV := Lib.hid (show wcV x y u v c x' y' u' v' c' = .tuple #[.bool (wcB x y u v x' y' u' v'), .bool true] by simp [wcV, ht])
    rw [ht] at HT
    have hm := togB_iff.1 ht
    obtain ⟨sa, sb⟩ := (moveB_iff.1 hm.1.1).1
    obtain ⟨sc, sd⟩ := (moveB_iff.1 hm.1.2).1
    clear hm ht
    have HO0 := Lib.hid (fun W => apOn_any x y u v x' y' W)
    have HX0 := Lib.hid (fun W => apSide_any x y u v x' y' sa sb sc W)
    have HO1 := Lib.hid (fun W => apOn_any x y u v u' v' W)
    have HX1 := Lib.hid (fun W => apSide_any x y u v u' v' sa sb sd W)
    have HO2 := Lib.hid (fun W => apOn_any x' y' u' v' x y W)
    have HX2 := Lib.hid (fun W => apSide_any x' y' u' v' x y sc sd sa W)
    have HO3 := Lib.hid (fun W => apOn_any x' y' u' v' u v W)
    have HX3 := Lib.hid (fun W => apSide_any x' y' u' v' u v sc sd sb W)
    have HB := Lib.hid (show wcB x y u v x' y' u' v' = (((((decide (crs x y u v x' y' = 0) && bxB x y u v x' y')) || (decide (crs x y u v u' v' = 0) && bxB x y u v u' v')) || (decide (crs x' y' u' v' x y = 0) && bxB x' y' u' v' x y)) || (decide (crs x' y' u' v' u v = 0) && bxB x' y' u' v' u v) || (decide (sgn (crs x y u v x' y') * sgn (crs x y u v u' v') < 0) && decide (sgn (crs x' y' u' v' x y) * sgn (crs x' y' u' v' u v) < 0))) from rfl)
    generalize bxB x y u v x' y' = r0 at *
    generalize crs x y u v x' y' = k0 at *
    have hs0 := (sgn_eq k0).1
    obtain ⟨s0a, s0b⟩ := (sgn_eq k0).2
    rw [show decide (k0 = 0) = decide (sgn k0 = 0) from decide_eq_decide.2 hs0.symm] at HB
    generalize sgn k0 = g0 at *
    clear hs0
    generalize bxB x y u v u' v' = r1 at *
    generalize crs x y u v u' v' = k1 at *
    have hs1 := (sgn_eq k1).1
    obtain ⟨s1a, s1b⟩ := (sgn_eq k1).2
    rw [show decide (k1 = 0) = decide (sgn k1 = 0) from decide_eq_decide.2 hs1.symm] at HB
    generalize sgn k1 = g1 at *
    clear hs1
    generalize bxB x' y' u' v' x y = r2 at *
    generalize crs x' y' u' v' x y = k2 at *
    have hs2 := (sgn_eq k2).1
    obtain ⟨s2a, s2b⟩ := (sgn_eq k2).2
    rw [show decide (k2 = 0) = decide (sgn k2 = 0) from decide_eq_decide.2 hs2.symm] at HB
    generalize sgn k2 = g2 at *
    clear hs2
    generalize bxB x' y' u' v' u v = r3 at *
    generalize crs x' y' u' v' u v = k3 at *
    have hs3 := (sgn_eq k3).1
    obtain ⟨s3a, s3b⟩ := (sgn_eq k3).2
    rw [show decide (k3 = 0) = decide (sgn k3 = 0) from decide_eq_decide.2 hs3.symm] at HB
    generalize sgn k3 = g3 at *
    clear hs3
    clear sa sb sc sd
    go_enter Try.func31, Try.ntmps31
    go_wp2_with fail
    generalize hWx : World.alloc (World.alloc w _) _ = W
    have hbW : Below w.heap.size w W := by subst hWx; exact (below_alloc _ _).trans ((below_alloc _ _).mono (by simp))
    have hz1 : w.heap.size + 1 < W.heap.size := by subst hWx; simp
    have hz0 : w.heap.size < W.heap.size := by omega
    have m0 : MC W w.heap.size x y u v c := by subst hWx; exact ⟨by simp [go_sem], by simp [go_sem], by simp [go_sem], by simp [go_sem], by simp [go_sem]⟩
    have m1 : MC W (w.heap.size + 1) x' y' u' v' c' := by subst hWx; exact ⟨by simp [go_sem], by simp [go_sem], by simp [go_sem], by simp [go_sem], by simp [go_sem]⟩
    clear hWx
    obtain ⟨i0, i1, i2, i3, i4⟩ := id m0
    obtain ⟨j0, j1, j2, j3, j4⟩ := id m1
    refine (HT.out _).mono ?_
    rintro e w1 ⟨rfl, hb0⟩
    obtain ⟨hc0, hf0⟩ := bcell hb0
    go_upto_region 3 with fail
    obtain ⟨wB, hwB⟩ : ∃ W : World, W = w1 := ⟨_, rfl⟩
    rw [← hwB] at hb0 hc0 hf0 ⊢
    clear hwB
    have M0 := m0.up hb0
    have M1 := m1.up hb0
    have hbB := up_trans hbW hb0
    obtain ⟨q1, q2⟩ := mul_bd (a := g0) (b := g1) (A := 1) (B := 1) (by omega) (by omega) (by omega) (by omega)
    obtain ⟨q3, q4⟩ := mul_bd (a := g2) (b := g3) (A := 1) (B := 1) (by omega) (by omega) (by omega) (by omega)
    clear i0 i1 i2 i3 i4 j0 j1 j2 j3 j4 m0 m1 hb0 hc0 hf0
    have c0 := cell_regrown M0.c0
    have c1 := cell_regrown M0.c1
    have c2 := cell_regrown M0.c2
    have c3 := cell_regrown M0.c3
    have c4 := cell_regrown M1.c0
    have c5 := cell_regrown M1.c1
    have c6 := cell_regrown M1.c2
    have c7 := cell_regrown M1.c3
    refine wp_region_up (by kernel_rfl) (by kernel_rfl) ?_
    repeat (go_big_quiet_step (first | (with_reducible exact up_of (fun W _ => HX0.out W) _ _) | (with_reducible exact up_of (fun W _ => HX1.out W) _ _)))
    refine wpQuiet_nil ?_
    intro w1 hb0
    obtain ⟨hc0, hf0⟩ := bcell hb0
    clear c0 c1 c2 c3 c4 c5 c6 c7 hc0 hf0
    obtain ⟨wC, hwC⟩ : ∃ W : World, W = w1 := ⟨_, rfl⟩
    rw [← hwC] at hb0 ⊢
    clear hwC
    replace M0 := M0.up hb0
    replace M1 := M1.up hb0
    have hbC := up_trans hbB hb0
    clear hb0
    go_upto_region 4 with fail
    have c0 := cell_regrown M0.c0
    have c1 := cell_regrown M0.c1
    have c2 := cell_regrown M0.c2
    have c3 := cell_regrown M0.c3
    have c4 := cell_regrown M1.c0
    have c5 := cell_regrown M1.c1
    have c6 := cell_regrown M1.c2
    have c7 := cell_regrown M1.c3
    refine wp_region_up (by kernel_rfl) (by kernel_rfl) ?_
    repeat (go_big_quiet_step (first | (with_reducible exact up_of (fun W _ => HX2.out W) _ _) | (with_reducible exact up_of (fun W _ => HX3.out W) _ _)))
    refine wpQuiet_nil ?_
    intro w1 hb0
    obtain ⟨hc0, hf0⟩ := bcell hb0
    clear c0 c1 c2 c3 c4 c5 c6 c7 hc0 hf0
    obtain ⟨wD, hwD⟩ : ∃ W : World, W = w1 := ⟨_, rfl⟩
    rw [← hwD] at hb0 ⊢
    clear hwD
    replace M0 := M0.up hb0
    replace M1 := M1.up hb0
    have hbD := up_trans hbC hb0
    have hz2 : w.heap.size < wD.heap.size := by have := hbD.size; have := hbW.size; exact lt_of_cell M0.c0
    have hz3 : w.heap.size + 1 < wD.heap.size := lt_of_cell M1.c0
    clear hb0
    obtain ⟨i0, i1, i2, i3, i4⟩ := id M0
    obtain ⟨j0, j1, j2, j3, j4⟩ := id M1
    clear M0 M1 HX0 HX1 HX2 HX3 HT
    go_wp2_with (first | (go_at_call 63; (with_reducible show Calls Try.prog _ #[.agg #[.int .i64 x, .int .i64 y], .agg #[.int .i64 u, .int .i64 v], .agg #[.int .i64 x', .int .i64 y']] _ _); refine (from0 (HO0.out _) (by first | exact hb0 | exact up_alloc hb0 _ | exact up_drew hb0 | exact up_drewN hb0 _ | exact Below.refl _ _)).mono ?_; rintro e w1 ⟨rfl, hb0⟩; obtain ⟨hc0, hf0⟩ := bcell hb0) | (go_at_call 63; (with_reducible show Calls Try.prog _ #[.agg #[.int .i64 x, .int .i64 y], .agg #[.int .i64 u, .int .i64 v], .agg #[.int .i64 u', .int .i64 v']] _ _); refine (from0 (HO1.out _) (by first | exact hb0 | exact up_alloc hb0 _ | exact up_drew hb0 | exact up_drewN hb0 _ | exact Below.refl _ _)).mono ?_; rintro e w1 ⟨rfl, hb0⟩; obtain ⟨hc0, hf0⟩ := bcell hb0) | (go_at_call 63; (with_reducible show Calls Try.prog _ #[.agg #[.int .i64 x', .int .i64 y'], .agg #[.int .i64 u', .int .i64 v'], .agg #[.int .i64 x, .int .i64 y]] _ _); refine (from0 (HO2.out _) (by first | exact hb0 | exact up_alloc hb0 _ | exact up_drew hb0 | exact up_drewN hb0 _ | exact Below.refl _ _)).mono ?_; rintro e w1 ⟨rfl, hb0⟩; obtain ⟨hc0, hf0⟩ := bcell hb0) | (go_at_call 63; (with_reducible show Calls Try.prog _ #[.agg #[.int .i64 x', .int .i64 y'], .agg #[.int .i64 u', .int .i64 v'], .agg #[.int .i64 u, .int .i64 v]] _ _); refine (from0 (HO3.out _) (by first | exact hb0 | exact up_alloc hb0 _ | exact up_drew hb0 | exact up_drewN hb0 _ | exact Below.refl _ _)).mono ?_; rintro e w1 ⟨rfl, hb0⟩; obtain ⟨hc0, hf0⟩ := bcell hb0))
    all_goals
      go_ret2
      rw [HV.out, HB.out]
      exact ⟨by first | (simp [*]; done) | (simp [*]; omega), up_trans hbD (by (repeat (first | with_reducible exact Below.refl _ _ | with_reducible assumption | with_reducible refine up_alloc ?_ _ | with_reducible refine up_drew ?_ | with_reducible refine up_drewN ?_ _ | (with_reducible refine up_set ?_ ?hset _; case hset => first | (simp; done) | (simp; omega) | omega) | with_reducible refine up_trans ?_ (by with_reducible assumption))))⟩
end Go.Proofs.Ytljdhicmcmppgaa
