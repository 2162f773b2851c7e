/-
  WidestStep and FitsStep of the reference.
-/
import Derived.Test.YtkmnkodgmngaeaaRows
import Derived.Test.YtkmnkodgmngaeaaBase
import Derived.Test.YtkmnkodgmngaeaaSpot
import Derived.Test.YtkmnkodgmngaeaaSlice
import Derived.Test.YtkmnkodgmngaeaaChart
import Derived.Test.YtkmnkodgmngaeaaLawS
import Derived.Test.YtkmnkodgmngaeaaMark
import Derived.Test.YtkmnkodgmngaeaaOpen
import Derived.Test.YtkmnkodgmngaeaaTrod
import Derived.Test.YtkmnkodgmngaeaaInts
import Derived.Test.YtkmnkodgmngaeaaIntsL
import Derived.Test.YtkmnkodgmngaeaaTurned
import Derived.Test.YtkmnkodgmngaeaaTrans
import Derived.Test.YtkmnkodgmngaeaaAppend
import Derived.Test.YtkmnkodgmngaeaaAppendE
import Derived.Test.YtkmnkodgmngaeaaForm
import Derived.Test.YtkmnkodgmngaeaaMatch
import Derived.Test.YtkmnkodgmngaeaaChanged
import Derived.Test.YtkmnkodgmngaeaaIsTrans
import Derived.Test.YtkmnkodgmngaeaaMove
import Derived.Test.YtkmnkodgmngaeaaGcd
import Derived.Test.YtkmnkodgmngaeaaMoves
import Derived.Test.YtkmnkodgmngaeaaAppendM
import Derived.Test.YtkmnkodgmngaeaaCopyI
import Derived.Test.YtkmnkodgmngaeaaMovesOf
import Derived.Test.YtkmnkodgmngaeaaTransFn
import Derived.Deep.RegionHeld3
import Derived.Deep.RegionWith

namespace Go.Proofs.Ytkmnkodgmngaeaa
open Go.RowKit Go.ChangeShapes Go.WideShapes Go.Sort

set_option maxRecDepth 100000 in
set_option maxHeartbeats 4000000 in
theorem sWidestStep_g (v : Value) (d : TrD) (w : World) (h : Trn w v d) (hn : d.n ≤ 1048576) (hm : d.m ≤ 1048576) (hl : d.l ≤ 1048576) : Calls Try.prog 32 #[v] w (Ans w (wsV d)) := by
  obtain ⟨f, t, p, rfl, hf, ht, hp⟩ := h
  have HF := Lib.hid hf
  have HT := Lib.hid ht
  have HP := Lib.hid hp
  obtain ⟨A1, c1, rfl, b1⟩ := hf.shape
  obtain ⟨A2, c2, rfl, b2⟩ := ht.shape
  obtain ⟨A3, c3, rfl, b3⟩ := hp.shape
  clear hf ht hp
  have HTr := Lib.hid (fun W (hW : Below w.heap.size w W) => (show Trn W (.agg #[.slice A1 d.n c1, .slice A2 d.m c2, .int .i64 d.c, .slice A3 d.l c3]) d from ⟨_, _, _, rfl, HF.out.up hW, HT.out.up hW, HP.out.up hW⟩))
  have HG := Lib.hid (fun W hW => asGood_g _ d W (HTr.out W hW) hn hm hl)
  cases e1 : trB d with
  | false =>
    rw [e1] at HG
    rw [show wsV d = .tuple #[.int .i64 0, .int .i64 0, .bool false] by simp [wsV, e1]]
    clear e1
    go_enter Try.func32, Try.ntmps32
    go_wp2_with fail
    refine (HG.out _ (by (repeat (first | with_reducible exact Below.refl _ _ | with_reducible assumption | with_reducible refine up_alloc ?_ _ | with_reducible refine up_drew ?_ | with_reducible refine up_drewN ?_ _ | (with_reducible refine up_set ?_ ?hset _; case hset => first | (simp; done) | (simp; omega) | omega) | with_reducible refine up_trans ?_ (by with_reducible assumption))))).mono ?_
    rintro e w1 ⟨rfl, hb1⟩
    go_wp2_with fail
    go_ret3
    exact ⟨rfl, by (repeat (first | with_reducible exact Below.refl _ _ | with_reducible assumption | with_reducible refine up_alloc ?_ _ | with_reducible refine up_drew ?_ | with_reducible refine up_drewN ?_ _ | (with_reducible refine up_set ?_ ?hset _; case hset => first | (simp; done) | (simp; omega) | omega) | with_reducible refine up_trans ?_ (by with_reducible assumption)))⟩
  | true =>
    rw [e1] at HG
    have HK := Lib.hid (TrOk.of e1)
    have l1 := HK.out.lp; have l2 := HK.out.mp; have l3 := HK.out.n12; have l4 := HK.out.n1; have l5 := HK.out.c1; have l6 := HK.out.c64
    have hgl := farM_lt d d.l (by omega)
    obtain ⟨g, hg⟩ : ∃ g, farM d d.l = g := ⟨_, rfl⟩
    rw [hg] at hgl
    have HA := Lib.hid (fun W (hW : Below w.heap.size w W) => asMoves_g _ d W (HTr.out W hW) HK.out)
    have HFa := Lib.hid (fun W (hW : Below w.heap.size w W) => asFarthest_g _ d W (HTr.out W hW) HK.out)
    rw [hg] at HFa
    have j3 : (g : Int) < (d.l : Int) := by omega
    have HC := Lib.hid (fun W => sStepSquare_mm (mvM d g) (MvOk.of HK.out hgl) W)
    rw [show wsV d = .tuple #[.int .i64 (lowA (sqM d (farM d d.l)) (d.c * d.c)), .int .i64 (lowB (sqM d (farM d d.l)) (d.c * d.c)), .bool true] by simp [wsV, e1]]
    rw [hg, show lowA (sqM d g) (d.c * d.c) = lowA (sq (mvM d g 0) (mvM d g 1) (mvM d g 2) (mvM d g 3)) (mvM d g 4 * mvM d g 4) from rfl, show lowB (sqM d g) (d.c * d.c) = lowB (sq (mvM d g 0) (mvM d g 1) (mvM d g 2) (mvM d g 3)) (mvM d g 4 * mvM d g 4) from rfl]
    clear hg
    clear e1
    go_enter Try.func32, Try.ntmps32
    go_wp2_with fail
    generalize hW : World.alloc _ _ = W at *
    have hbW : Below w.heap.size w W := by subst hW; (repeat (first | with_reducible exact Below.refl _ _ | with_reducible assumption | with_reducible refine up_alloc ?_ _ | with_reducible refine up_drew ?_ | with_reducible refine up_drewN ?_ _ | (with_reducible refine up_set ?_ ?hset _; case hset => first | (simp; done) | (simp; omega) | omega) | with_reducible refine up_trans ?_ (by with_reducible assumption)))
    have k0 : W.cell? ⟨w.heap.size, 0, none⟩ = some (.slice A1 d.n c1) := by subst hW; simp [go_sem]
    have k1 : W.cell? ⟨w.heap.size, 1, none⟩ = some (.slice A2 d.m c2) := by subst hW; simp [go_sem]
    have k2 : W.cell? ⟨w.heap.size, 2, none⟩ = some (.int .i64 d.c) := by subst hW; simp [go_sem]
    have k3 : W.cell? ⟨w.heap.size, 3, none⟩ = some (.slice A3 d.l c3) := by subst hW; simp [go_sem]
    have HSZ := Lib.hid (show W.heap.size = w.heap.size + 1 by subst hW; simp)
    clear hW

    refine (HG.out _ hbW).mono ?_
    rintro e w1 ⟨rfl, hb1⟩
    have q0 := up_keep hb1 k0; have q1 := up_keep hb1 k1; have q2 := up_keep hb1 k2; have q3 := up_keep hb1 k3
    have hw1 := up_trans hbW hb1
    go_wp2_with fail
    go_region_with (first
      | (go_at_call 116; (refine (HA.out _ (show Below w.heap.size w _ from (by (repeat (first | with_reducible exact Below.refl _ _ | with_reducible assumption | with_reducible refine up_alloc ?_ _ | with_reducible refine up_drew ?_ | with_reducible refine up_drewN ?_ _ | (with_reducible refine up_set ?_ ?hset _; case hset => first | (simp; done) | (simp; omega) | omega) | with_reducible refine up_trans ?_ (by with_reducible assumption)))))).mono ?_); rintro e wm ⟨ms, rfl, hms, hbm⟩; obtain ⟨Am, cm, rfl, hnm, hrm⟩ := hms; obtain ⟨bm, om, rfl, _, _, hrr⟩ := hrm (by omega); obtain ⟨z0, z1, z2, z3, z4⟩ := hrr g hgl; clear hrr hrm; have y0 := up_keep (show Below w1.heap.size w1 wm from (by (repeat (first | with_reducible exact Below.refl _ _ | with_reducible assumption | with_reducible refine up_alloc ?_ _ | with_reducible refine up_drew ?_ | with_reducible refine up_drewN ?_ _ | (with_reducible refine up_set ?_ ?hset _; case hset => first | (simp; done) | (simp; omega) | omega) | with_reducible refine up_trans ?_ (by with_reducible assumption))))) q0; have y1 := up_keep (show Below w1.heap.size w1 wm from (by (repeat (first | with_reducible exact Below.refl _ _ | with_reducible assumption | with_reducible refine up_alloc ?_ _ | with_reducible refine up_drew ?_ | with_reducible refine up_drewN ?_ _ | (with_reducible refine up_set ?_ ?hset _; case hset => first | (simp; done) | (simp; omega) | omega) | with_reducible refine up_trans ?_ (by with_reducible assumption))))) q1; have y2 := up_keep (show Below w1.heap.size w1 wm from (by (repeat (first | with_reducible exact Below.refl _ _ | with_reducible assumption | with_reducible refine up_alloc ?_ _ | with_reducible refine up_drew ?_ | with_reducible refine up_drewN ?_ _ | (with_reducible refine up_set ?_ ?hset _; case hset => first | (simp; done) | (simp; omega) | omega) | with_reducible refine up_trans ?_ (by with_reducible assumption))))) q2; have y3 := up_keep (show Below w1.heap.size w1 wm from (by (repeat (first | with_reducible exact Below.refl _ _ | with_reducible assumption | with_reducible refine up_alloc ?_ _ | with_reducible refine up_drew ?_ | with_reducible refine up_drewN ?_ _ | (with_reducible refine up_set ?_ ?hset _; case hset => first | (simp; done) | (simp; omega) | omega) | with_reducible refine up_trans ?_ (by with_reducible assumption))))) q3) | (go_at_call 128; (refine (HFa.out _ (show Below w.heap.size w _ from (by (repeat (first | with_reducible exact Below.refl _ _ | with_reducible assumption | with_reducible refine up_alloc ?_ _ | with_reducible refine up_drew ?_ | with_reducible refine up_drewN ?_ _ | (with_reducible refine up_set ?_ ?hset _; case hset => first | (simp; done) | (simp; omega) | omega) | with_reducible refine up_trans ?_ (by with_reducible assumption)))))).mono ?_); rintro e wf ⟨rfl, hbf⟩; have u0 := up_keep (show Below w1.heap.size w1 wf from (by (repeat (first | with_reducible exact Below.refl _ _ | with_reducible assumption | with_reducible refine up_alloc ?_ _ | with_reducible refine up_drew ?_ | with_reducible refine up_drewN ?_ _ | (with_reducible refine up_set ?_ ?hset _; case hset => first | (simp; done) | (simp; omega) | omega) | with_reducible refine up_trans ?_ (by with_reducible assumption))))) q0; have u1 := up_keep (show Below w1.heap.size w1 wf from (by (repeat (first | with_reducible exact Below.refl _ _ | with_reducible assumption | with_reducible refine up_alloc ?_ _ | with_reducible refine up_drew ?_ | with_reducible refine up_drewN ?_ _ | (with_reducible refine up_set ?_ ?hset _; case hset => first | (simp; done) | (simp; omega) | omega) | with_reducible refine up_trans ?_ (by with_reducible assumption))))) q1; have u2 := up_keep (show Below w1.heap.size w1 wf from (by (repeat (first | with_reducible exact Below.refl _ _ | with_reducible assumption | with_reducible refine up_alloc ?_ _ | with_reducible refine up_drew ?_ | with_reducible refine up_drewN ?_ _ | (with_reducible refine up_set ?_ ?hset _; case hset => first | (simp; done) | (simp; omega) | omega) | with_reducible refine up_trans ?_ (by with_reducible assumption))))) q2; have u3 := up_keep (show Below w1.heap.size w1 wf from (by (repeat (first | with_reducible exact Below.refl _ _ | with_reducible assumption | with_reducible refine up_alloc ?_ _ | with_reducible refine up_drew ?_ | with_reducible refine up_drewN ?_ _ | (with_reducible refine up_set ?_ ?hset _; case hset => first | (simp; done) | (simp; omega) | omega) | with_reducible refine up_trans ?_ (by with_reducible assumption))))) q3; (try (have m0 := up_keep hbf z0; have m1 := up_keep hbf z1; have m2 := up_keep hbf z2; have m3 := up_keep hbf z3; have m4 := up_keep hbf z4)))
      | (go_at_call 136; (refine (HC.out _).mono ?_); rintro e wz ⟨rfl, hbz⟩; have v0 := up_keep (show Below w1.heap.size w1 wz from (by (repeat (first | with_reducible exact Below.refl _ _ | with_reducible assumption | with_reducible refine up_alloc ?_ _ | with_reducible refine up_drew ?_ | with_reducible refine up_drewN ?_ _ | (with_reducible refine up_set ?_ ?hset _; case hset => first | (simp; done) | (simp; omega) | omega) | with_reducible refine up_trans ?_ (by with_reducible assumption))))) q0; have v1 := up_keep (show Below w1.heap.size w1 wz from (by (repeat (first | with_reducible exact Below.refl _ _ | with_reducible assumption | with_reducible refine up_alloc ?_ _ | with_reducible refine up_drew ?_ | with_reducible refine up_drewN ?_ _ | (with_reducible refine up_set ?_ ?hset _; case hset => first | (simp; done) | (simp; omega) | omega) | with_reducible refine up_trans ?_ (by with_reducible assumption))))) q1; have v2 := up_keep (show Below w1.heap.size w1 wz from (by (repeat (first | with_reducible exact Below.refl _ _ | with_reducible assumption | with_reducible refine up_alloc ?_ _ | with_reducible refine up_drew ?_ | with_reducible refine up_drewN ?_ _ | (with_reducible refine up_set ?_ ?hset _; case hset => first | (simp; done) | (simp; omega) | omega) | with_reducible refine up_trans ?_ (by with_reducible assumption))))) q2; have v3 := up_keep (show Below w1.heap.size w1 wz from (by (repeat (first | with_reducible exact Below.refl _ _ | with_reducible assumption | with_reducible refine up_alloc ?_ _ | with_reducible refine up_drew ?_ | with_reducible refine up_drewN ?_ _ | (with_reducible refine up_set ?_ ?hset _; case hset => first | (simp; done) | (simp; omega) | omega) | with_reducible refine up_trans ?_ (by with_reducible assumption))))) q3))
    all_goals
      go_wp2_with fail
      go_ret3
      exact ⟨rfl, by (repeat (first | with_reducible exact Below.refl _ _ | with_reducible assumption | with_reducible refine up_alloc ?_ _ | with_reducible refine up_drew ?_ | with_reducible refine up_drewN ?_ _ | (with_reducible refine up_set ?_ ?hset _; case hset => first | (simp; done) | (simp; omega) | omega) | with_reducible refine up_trans ?_ (by with_reducible assumption)))⟩
set_option maxRecDepth 100000 in
set_option maxHeartbeats 4000000 in
theorem sFitsStep_g (v : Value) (d : TrD) (s : Int) (w : World) (h : Trn w v d) (hn : d.n ≤ 1048576) (hm : d.m ≤ 1048576) (hl : d.l ≤ 1048576) : Calls Try.prog 28 #[v, .int .i64 s] w (Ans w (ftV d s)) := by
  obtain ⟨f, t, p, rfl, hf, ht, hp⟩ := h
  have HF := Lib.hid hf
  have HT := Lib.hid ht
  have HP := Lib.hid hp
  obtain ⟨A1, c1, rfl, b1⟩ := hf.shape
  obtain ⟨A2, c2, rfl, b2⟩ := ht.shape
  obtain ⟨A3, c3, rfl, b3⟩ := hp.shape
  clear hf ht hp
  have HTr := Lib.hid (fun W (hW : Below w.heap.size w W) => (show Trn W (.agg #[.slice A1 d.n c1, .slice A2 d.m c2, .int .i64 d.c, .slice A3 d.l c3]) d from ⟨_, _, _, rfl, HF.out.up hW, HT.out.up hW, HP.out.up hW⟩))
  have HG := Lib.hid (fun W hW => asGood_g _ d W (HTr.out W hW) hn hm hl)
  cases e1 : trB d with
  | false =>
    rw [e1] at HG
    rw [show ftV d s = .tuple #[.bool false, .bool false] by simp [ftV, ftOk, e1]]
    clear e1
    go_enter Try.func28, Try.ntmps28
    go_wp2_with fail
    refine (HG.out _ (by (repeat (first | with_reducible exact Below.refl _ _ | with_reducible assumption | with_reducible refine up_alloc ?_ _ | with_reducible refine up_drew ?_ | with_reducible refine up_drewN ?_ _ | (with_reducible refine up_set ?_ ?hset _; case hset => first | (simp; done) | (simp; omega) | omega) | with_reducible refine up_trans ?_ (by with_reducible assumption))))).mono ?_
    rintro e w1 ⟨rfl, hb1⟩
    go_wp2_with fail
    go_ret2
    exact ⟨rfl, by (repeat (first | with_reducible exact Below.refl _ _ | with_reducible assumption | with_reducible refine up_alloc ?_ _ | with_reducible refine up_drew ?_ | with_reducible refine up_drewN ?_ _ | (with_reducible refine up_set ?_ ?hset _; case hset => first | (simp; done) | (simp; omega) | omega) | with_reducible refine up_trans ?_ (by with_reducible assumption)))⟩
  | true =>
    rw [e1] at HG
    have HK := Lib.hid (TrOk.of e1)
    cases e2 : inB s 1 24 with
    | false =>
      rw [show ftV d s = .tuple #[.bool false, .bool false] by simp [ftV, ftOk, e2]]
      clear e1
      go_enter Try.func28, Try.ntmps28
      go_wp2_with fail
      generalize hW : World.alloc _ _ = W at *
      have hbW : Below w.heap.size w W := by subst hW; (repeat (first | with_reducible exact Below.refl _ _ | with_reducible assumption | with_reducible refine up_alloc ?_ _ | with_reducible refine up_drew ?_ | with_reducible refine up_drewN ?_ _ | (with_reducible refine up_set ?_ ?hset _; case hset => first | (simp; done) | (simp; omega) | omega) | with_reducible refine up_trans ?_ (by with_reducible assumption)))
      have k0 : W.cell? ⟨w.heap.size, 0, none⟩ = some (.slice A1 d.n c1) := by subst hW; simp [go_sem]
      have k1 : W.cell? ⟨w.heap.size, 1, none⟩ = some (.slice A2 d.m c2) := by subst hW; simp [go_sem]
      have k2 : W.cell? ⟨w.heap.size, 2, none⟩ = some (.int .i64 d.c) := by subst hW; simp [go_sem]
      have k3 : W.cell? ⟨w.heap.size, 3, none⟩ = some (.slice A3 d.l c3) := by subst hW; simp [go_sem]
      have HSZ := Lib.hid (show W.heap.size = w.heap.size + 1 by subst hW; simp)
      clear hW
      refine (HG.out _ hbW).mono ?_
      rintro e w1 ⟨rfl, hb1⟩
      have q0 := up_keep hb1 k0; have q1 := up_keep hb1 k1; have q2 := up_keep hb1 k2; have q3 := up_keep hb1 k3
      have hw1 := up_trans hbW hb1

      go_wp2_with (go_at_call 130; refine (mvStep_any _ _).mono ?_; rintro e wq ⟨rfl, rfl⟩)
      go_ret2
      exact ⟨rfl, hw1⟩
    | true =>
      obtain ⟨i1, i2⟩ := inB_iff.1 e2
      rw [show ftV d s = .tuple #[.bool (stB (mvM d (farM d d.l)) s), .bool true] by simp [ftV, ftOk, e1, e2]]
      clear e1
      have l1 := HK.out.lp; have l2 := HK.out.mp; have l3 := HK.out.n12; have l4 := HK.out.n1; have l5 := HK.out.c1; have l6 := HK.out.c64
      have hgl := farM_lt d d.l (by omega)
      obtain ⟨g, hg⟩ : ∃ g, farM d d.l = g := ⟨_, rfl⟩
      rw [hg] at hgl
      have HA := Lib.hid (fun W (hW : Below w.heap.size w W) => asMoves_g _ d W (HTr.out W hW) HK.out)
      have HFa := Lib.hid (fun W (hW : Below w.heap.size w W) => asFarthest_g _ d W (HTr.out W hW) HK.out)
      rw [hg] at HFa
      have j3 : (g : Int) < (d.l : Int) := by omega
      have HC := Lib.hid (fun W => mvWithin_mm (mvM d g) s (MvOk.of HK.out hgl) i1 i2 W)
      rw [hg]
      clear hg

      go_enter Try.func28, Try.ntmps28
      go_wp2_with fail
      generalize hW : World.alloc _ _ = W at *
      have hbW : Below w.heap.size w W := by subst hW; (repeat (first | with_reducible exact Below.refl _ _ | with_reducible assumption | with_reducible refine up_alloc ?_ _ | with_reducible refine up_drew ?_ | with_reducible refine up_drewN ?_ _ | (with_reducible refine up_set ?_ ?hset _; case hset => first | (simp; done) | (simp; omega) | omega) | with_reducible refine up_trans ?_ (by with_reducible assumption)))
      have k0 : W.cell? ⟨w.heap.size, 0, none⟩ = some (.slice A1 d.n c1) := by subst hW; simp [go_sem]
      have k1 : W.cell? ⟨w.heap.size, 1, none⟩ = some (.slice A2 d.m c2) := by subst hW; simp [go_sem]
      have k2 : W.cell? ⟨w.heap.size, 2, none⟩ = some (.int .i64 d.c) := by subst hW; simp [go_sem]
      have k3 : W.cell? ⟨w.heap.size, 3, none⟩ = some (.slice A3 d.l c3) := by subst hW; simp [go_sem]
      have HSZ := Lib.hid (show W.heap.size = w.heap.size + 1 by subst hW; simp)
      clear hW
      refine (HG.out _ hbW).mono ?_
      rintro e w1 ⟨rfl, hb1⟩
      have q0 := up_keep hb1 k0; have q1 := up_keep hb1 k1; have q2 := up_keep hb1 k2; have q3 := up_keep hb1 k3
      have hw1 := up_trans hbW hb1

      go_wp2_with (go_at_call 130; refine (mvStep_any _ _).mono ?_; rintro e wq ⟨rfl, rfl⟩)
      go_region_with (first
        | (go_at_call 116; (refine (HA.out _ (show Below w.heap.size w _ from (by (repeat (first | with_reducible exact Below.refl _ _ | with_reducible assumption | with_reducible refine up_alloc ?_ _ | with_reducible refine up_drew ?_ | with_reducible refine up_drewN ?_ _ | (with_reducible refine up_set ?_ ?hset _; case hset => first | (simp; done) | (simp; omega) | omega) | with_reducible refine up_trans ?_ (by with_reducible assumption)))))).mono ?_); rintro e wm ⟨ms, rfl, hms, hbm⟩; obtain ⟨Am, cm, rfl, hnm, hrm⟩ := hms; obtain ⟨bm, om, rfl, _, _, hrr⟩ := hrm (by omega); obtain ⟨z0, z1, z2, z3, z4⟩ := hrr g hgl; clear hrr hrm; have y0 := up_keep (show Below w1.heap.size w1 wm from (by (repeat (first | with_reducible exact Below.refl _ _ | with_reducible assumption | with_reducible refine up_alloc ?_ _ | with_reducible refine up_drew ?_ | with_reducible refine up_drewN ?_ _ | (with_reducible refine up_set ?_ ?hset _; case hset => first | (simp; done) | (simp; omega) | omega) | with_reducible refine up_trans ?_ (by with_reducible assumption))))) q0; have y1 := up_keep (show Below w1.heap.size w1 wm from (by (repeat (first | with_reducible exact Below.refl _ _ | with_reducible assumption | with_reducible refine up_alloc ?_ _ | with_reducible refine up_drew ?_ | with_reducible refine up_drewN ?_ _ | (with_reducible refine up_set ?_ ?hset _; case hset => first | (simp; done) | (simp; omega) | omega) | with_reducible refine up_trans ?_ (by with_reducible assumption))))) q1; have y2 := up_keep (show Below w1.heap.size w1 wm from (by (repeat (first | with_reducible exact Below.refl _ _ | with_reducible assumption | with_reducible refine up_alloc ?_ _ | with_reducible refine up_drew ?_ | with_reducible refine up_drewN ?_ _ | (with_reducible refine up_set ?_ ?hset _; case hset => first | (simp; done) | (simp; omega) | omega) | with_reducible refine up_trans ?_ (by with_reducible assumption))))) q2; have y3 := up_keep (show Below w1.heap.size w1 wm from (by (repeat (first | with_reducible exact Below.refl _ _ | with_reducible assumption | with_reducible refine up_alloc ?_ _ | with_reducible refine up_drew ?_ | with_reducible refine up_drewN ?_ _ | (with_reducible refine up_set ?_ ?hset _; case hset => first | (simp; done) | (simp; omega) | omega) | with_reducible refine up_trans ?_ (by with_reducible assumption))))) q3) | (go_at_call 128; (refine (HFa.out _ (show Below w.heap.size w _ from (by (repeat (first | with_reducible exact Below.refl _ _ | with_reducible assumption | with_reducible refine up_alloc ?_ _ | with_reducible refine up_drew ?_ | with_reducible refine up_drewN ?_ _ | (with_reducible refine up_set ?_ ?hset _; case hset => first | (simp; done) | (simp; omega) | omega) | with_reducible refine up_trans ?_ (by with_reducible assumption)))))).mono ?_); rintro e wf ⟨rfl, hbf⟩; have u0 := up_keep (show Below w1.heap.size w1 wf from (by (repeat (first | with_reducible exact Below.refl _ _ | with_reducible assumption | with_reducible refine up_alloc ?_ _ | with_reducible refine up_drew ?_ | with_reducible refine up_drewN ?_ _ | (with_reducible refine up_set ?_ ?hset _; case hset => first | (simp; done) | (simp; omega) | omega) | with_reducible refine up_trans ?_ (by with_reducible assumption))))) q0; have u1 := up_keep (show Below w1.heap.size w1 wf from (by (repeat (first | with_reducible exact Below.refl _ _ | with_reducible assumption | with_reducible refine up_alloc ?_ _ | with_reducible refine up_drew ?_ | with_reducible refine up_drewN ?_ _ | (with_reducible refine up_set ?_ ?hset _; case hset => first | (simp; done) | (simp; omega) | omega) | with_reducible refine up_trans ?_ (by with_reducible assumption))))) q1; have u2 := up_keep (show Below w1.heap.size w1 wf from (by (repeat (first | with_reducible exact Below.refl _ _ | with_reducible assumption | with_reducible refine up_alloc ?_ _ | with_reducible refine up_drew ?_ | with_reducible refine up_drewN ?_ _ | (with_reducible refine up_set ?_ ?hset _; case hset => first | (simp; done) | (simp; omega) | omega) | with_reducible refine up_trans ?_ (by with_reducible assumption))))) q2; have u3 := up_keep (show Below w1.heap.size w1 wf from (by (repeat (first | with_reducible exact Below.refl _ _ | with_reducible assumption | with_reducible refine up_alloc ?_ _ | with_reducible refine up_drew ?_ | with_reducible refine up_drewN ?_ _ | (with_reducible refine up_set ?_ ?hset _; case hset => first | (simp; done) | (simp; omega) | omega) | with_reducible refine up_trans ?_ (by with_reducible assumption))))) q3; (try (have m0 := up_keep hbf z0; have m1 := up_keep hbf z1; have m2 := up_keep hbf z2; have m3 := up_keep hbf z3; have m4 := up_keep hbf z4)))
        | (go_at_call 131; (refine (HC.out _).mono ?_); rintro e wz ⟨rfl, hbz⟩; have v0 := up_keep (show Below w1.heap.size w1 wz from (by (repeat (first | with_reducible exact Below.refl _ _ | with_reducible assumption | with_reducible refine up_alloc ?_ _ | with_reducible refine up_drew ?_ | with_reducible refine up_drewN ?_ _ | (with_reducible refine up_set ?_ ?hset _; case hset => first | (simp; done) | (simp; omega) | omega) | with_reducible refine up_trans ?_ (by with_reducible assumption))))) q0; have v1 := up_keep (show Below w1.heap.size w1 wz from (by (repeat (first | with_reducible exact Below.refl _ _ | with_reducible assumption | with_reducible refine up_alloc ?_ _ | with_reducible refine up_drew ?_ | with_reducible refine up_drewN ?_ _ | (with_reducible refine up_set ?_ ?hset _; case hset => first | (simp; done) | (simp; omega) | omega) | with_reducible refine up_trans ?_ (by with_reducible assumption))))) q1; have v2 := up_keep (show Below w1.heap.size w1 wz from (by (repeat (first | with_reducible exact Below.refl _ _ | with_reducible assumption | with_reducible refine up_alloc ?_ _ | with_reducible refine up_drew ?_ | with_reducible refine up_drewN ?_ _ | (with_reducible refine up_set ?_ ?hset _; case hset => first | (simp; done) | (simp; omega) | omega) | with_reducible refine up_trans ?_ (by with_reducible assumption))))) q2; have v3 := up_keep (show Below w1.heap.size w1 wz from (by (repeat (first | with_reducible exact Below.refl _ _ | with_reducible assumption | with_reducible refine up_alloc ?_ _ | with_reducible refine up_drew ?_ | with_reducible refine up_drewN ?_ _ | (with_reducible refine up_set ?_ ?hset _; case hset => first | (simp; done) | (simp; omega) | omega) | with_reducible refine up_trans ?_ (by with_reducible assumption))))) q3))
      all_goals
        go_wp2_with fail
        go_ret2
        exact ⟨rfl, by (repeat (first | with_reducible exact Below.refl _ _ | with_reducible assumption | with_reducible refine up_alloc ?_ _ | with_reducible refine up_drew ?_ | with_reducible refine up_drewN ?_ _ | (with_reducible refine up_set ?_ ?hset _; case hset => first | (simp; done) | (simp; omega) | omega) | with_reducible refine up_trans ?_ (by with_reducible assumption)))⟩
end Go.Proofs.Ytkmnkodgmngaeaa
