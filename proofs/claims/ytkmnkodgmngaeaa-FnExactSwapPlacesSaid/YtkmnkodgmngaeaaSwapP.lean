/-
  SwapPlaces on both sides.
-/
import Derived.Test.YtkmnkodgmngaeaaRows
import Derived.Test.YtkmnkodgmngaeaaBase
import Derived.Test.YtkmnkodgmngaeaaSpot
import Derived.Test.YtkmnkodgmngaeaaSlice
import Derived.Test.YtkmnkodgmngaeaaChart
import Derived.Test.YtkmnkodgmngaeaaLawS
import Derived.Test.YtkmnkodgmngaeaaMark
import Derived.Test.YtkmnkodgmngaeaaOpen
import Derived.Test.YtkmnkodgmngaeaaTrod
import Derived.Test.YtkmnkodgmngaeaaInts
import Derived.Test.YtkmnkodgmngaeaaIntsL
import Derived.Test.YtkmnkodgmngaeaaTurned
import Derived.Test.YtkmnkodgmngaeaaTrans
import Derived.Test.YtkmnkodgmngaeaaAppend
import Derived.Test.YtkmnkodgmngaeaaAppendE
import Derived.Test.YtkmnkodgmngaeaaForm
import Derived.Test.YtkmnkodgmngaeaaMatch
import Derived.Test.YtkmnkodgmngaeaaChanged
import Derived.Test.YtkmnkodgmngaeaaIsTrans
import Derived.Test.YtkmnkodgmngaeaaCopyI
import Derived.Test.YtkmnkodgmngaeaaNewT
import Derived.Test.YtkmnkodgmngaeaaMoves
import Derived.Test.YtkmnkodgmngaeaaAppendM
import Derived.Test.YtkmnkodgmngaeaaMovesOf
import Derived.Test.YtkmnkodgmngaeaaSwapT

namespace Go.Proofs.Ytkmnkodgmngaeaa
open Go.RowKit Go.ChangeShapes Go.WideShapes Go.Sort

/-- A valid transition, and a performer of it. -/
def pfB (d : TrD) (i : Int) : Bool := trB d && inB i 0 ((d.n : Int) - 1)
def spB (d : TrD) (i j : Int) : Bool := pfB d i && pfB d j
def spD (d : TrD) (i j : Int) : TrD := if spB d i j then swT d i.toNat j.toNat else TrD.zero
theorem spD_le (d : TrD) (i j : Int) : (spD d i j).n ≤ d.n ∧ (spD d i j).m ≤ d.m ∧ (spD d i j).l ≤ d.l := by
  unfold spD
  split <;> simp [swT, TrD.zero]
set_option maxRecDepth 100000 in
set_option maxHeartbeats 1000000 in
theorem isPerformer_g (v : Value) (d : TrD) (i : Int) (w : World) (h : Trn w v d) (hn : d.n ≤ 1048576) (hm : d.m ≤ 1048576) (hl : d.l ≤ 1048576) : Calls Try.prog 140 #[v, .int .i64 i] w (Ans w (.bool (pfB d i))) := by
  obtain ⟨f, t, p, rfl, hf, ht, hp⟩ := h
  have HF := Lib.hid hf
  have HT := Lib.hid ht
  have HP := Lib.hid hp
  obtain ⟨A1, c1, rfl, b1⟩ := hf.shape
  obtain ⟨A2, c2, rfl, b2⟩ := ht.shape
  obtain ⟨A3, c3, rfl, b3⟩ := hp.shape
  clear hf ht hp
  have HTr := Lib.hid (fun W (hW : Below w.heap.size w W) => (show Trn W (.agg #[.slice A1 d.n c1, .slice A2 d.m c2, .int .i64 d.c, .slice A3 d.l c3]) d from ⟨_, _, _, rfl, HF.out.up hW, HT.out.up hW, HP.out.up hW⟩))
  have HG := Lib.hid (fun W hW => isTransition_g _ d W (HTr.out W hW) hn hm hl)
  cases e1 : trB d with
  | false =>
    rw [e1] at HG
    have HE := Lib.hid (show pfB d i = false by simp [pfB, e1])
    clear e1
    go_enter Try.func140, Try.ntmps140
    go_wp2_with fail
    refine (HG.out _ (by (repeat (first | with_reducible exact Below.refl _ _ | with_reducible assumption | with_reducible refine up_alloc ?_ _ | with_reducible refine up_drew ?_ | with_reducible refine up_drewN ?_ _ | (with_reducible refine up_set ?_ ?hset _; case hset => first | (simp; done) | (simp; omega) | omega) | with_reducible refine up_trans ?_ (by with_reducible assumption))))).mono ?_
    rintro e w1 ⟨rfl, hb1⟩
    go_wp2_with fail
    go_ret
    exact Ans.bool (by rw [HE.out]) (by (repeat (first | with_reducible exact Below.refl _ _ | with_reducible assumption | with_reducible refine up_alloc ?_ _ | with_reducible refine up_drew ?_ | with_reducible refine up_drewN ?_ _ | (with_reducible refine up_set ?_ ?hset _; case hset => first | (simp; done) | (simp; omega) | omega) | with_reducible refine up_trans ?_ (by with_reducible assumption))))
  | true =>
    rw [e1] at HG
    have HE := Lib.hid (show pfB d i = inB i 0 ((d.n : Int) - 1) by simp [pfB, e1])
    have hn12 := (TrOk.of e1).n12
    clear e1
    go_enter Try.func140, Try.ntmps140
    go_wp2_with fail
    generalize hW : World.alloc _ _ = W at *
    have hbW : Below w.heap.size w W := by subst hW; (repeat (first | with_reducible exact Below.refl _ _ | with_reducible assumption | with_reducible refine up_alloc ?_ _ | with_reducible refine up_drew ?_ | with_reducible refine up_drewN ?_ _ | (with_reducible refine up_set ?_ ?hset _; case hset => first | (simp; done) | (simp; omega) | omega) | with_reducible refine up_trans ?_ (by with_reducible assumption)))
    have k0 : W.cell? ⟨w.heap.size, 0, none⟩ = some (.slice A1 d.n c1) := by subst hW; simp [go_sem]
    have k1 : W.cell? ⟨w.heap.size, 1, none⟩ = some (.slice A2 d.m c2) := by subst hW; simp [go_sem]
    have k2 : W.cell? ⟨w.heap.size, 2, none⟩ = some (.int .i64 d.c) := by subst hW; simp [go_sem]
    have k3 : W.cell? ⟨w.heap.size, 3, none⟩ = some (.slice A3 d.l c3) := by subst hW; simp [go_sem]
    have HSZ := Lib.hid (show W.heap.size = w.heap.size + 1 by subst hW; simp)
    clear hW

    refine (HG.out _ hbW).mono ?_
    rintro e w1 ⟨rfl, hb1⟩
    have q0 := up_keep hb1 k0
    have hw1 := up_trans hbW hb1
    go_wp2_with (go_at_call 132; refine (within_any _ _ _ _).mono ?_; rintro e w1 ⟨rfl, rfl⟩)
    go_ret
    exact Ans.bool (by rw [HE.out]) hw1
set_option maxRecDepth 100000 in
set_option maxHeartbeats 1000000 in
theorem asHas_g (v : Value) (d : TrD) (i : Int) (w : World) (h : Trn w v d) (hn : d.n ≤ 1048576) (hm : d.m ≤ 1048576) (hl : d.l ≤ 1048576) : Calls Try.prog 139 #[v, .int .i64 i] w (Ans w (.bool (pfB d i))) := by
  obtain ⟨f, t, p, rfl, hf, ht, hp⟩ := h
  have HF := Lib.hid hf
  have HT := Lib.hid ht
  have HP := Lib.hid hp
  obtain ⟨A1, c1, rfl, b1⟩ := hf.shape
  obtain ⟨A2, c2, rfl, b2⟩ := ht.shape
  obtain ⟨A3, c3, rfl, b3⟩ := hp.shape
  clear hf ht hp
  have HTr := Lib.hid (fun W (hW : Below w.heap.size w W) => (show Trn W (.agg #[.slice A1 d.n c1, .slice A2 d.m c2, .int .i64 d.c, .slice A3 d.l c3]) d from ⟨_, _, _, rfl, HF.out.up hW, HT.out.up hW, HP.out.up hW⟩))
  have HG := Lib.hid (fun W hW => asGood_g _ d W (HTr.out W hW) hn hm hl)
  cases e1 : trB d with
  | false =>
    rw [e1] at HG
    have HE := Lib.hid (show pfB d i = false by simp [pfB, e1])
    clear e1
    go_enter Try.func139, Try.ntmps139
    go_wp2_with fail
    refine (HG.out _ (by (repeat (first | with_reducible exact Below.refl _ _ | with_reducible assumption | with_reducible refine up_alloc ?_ _ | with_reducible refine up_drew ?_ | with_reducible refine up_drewN ?_ _ | (with_reducible refine up_set ?_ ?hset _; case hset => first | (simp; done) | (simp; omega) | omega) | with_reducible refine up_trans ?_ (by with_reducible assumption))))).mono ?_
    rintro e w1 ⟨rfl, hb1⟩
    go_wp2_with fail
    go_ret
    exact Ans.bool (by rw [HE.out]) (by (repeat (first | with_reducible exact Below.refl _ _ | with_reducible assumption | with_reducible refine up_alloc ?_ _ | with_reducible refine up_drew ?_ | with_reducible refine up_drewN ?_ _ | (with_reducible refine up_set ?_ ?hset _; case hset => first | (simp; done) | (simp; omega) | omega) | with_reducible refine up_trans ?_ (by with_reducible assumption))))
  | true =>
    rw [e1] at HG
    have HE := Lib.hid (show pfB d i = inB i 0 ((d.n : Int) - 1) by simp [pfB, e1])
    have hn12 := (TrOk.of e1).n12
    clear e1
    go_enter Try.func139, Try.ntmps139
    go_wp2_with fail
    generalize hW : World.alloc _ _ = W at *
    have hbW : Below w.heap.size w W := by subst hW; (repeat (first | with_reducible exact Below.refl _ _ | with_reducible assumption | with_reducible refine up_alloc ?_ _ | with_reducible refine up_drew ?_ | with_reducible refine up_drewN ?_ _ | (with_reducible refine up_set ?_ ?hset _; case hset => first | (simp; done) | (simp; omega) | omega) | with_reducible refine up_trans ?_ (by with_reducible assumption)))
    have k0 : W.cell? ⟨w.heap.size, 0, none⟩ = some (.slice A1 d.n c1) := by subst hW; simp [go_sem]
    have k1 : W.cell? ⟨w.heap.size, 1, none⟩ = some (.slice A2 d.m c2) := by subst hW; simp [go_sem]
    have k2 : W.cell? ⟨w.heap.size, 2, none⟩ = some (.int .i64 d.c) := by subst hW; simp [go_sem]
    have k3 : W.cell? ⟨w.heap.size, 3, none⟩ = some (.slice A3 d.l c3) := by subst hW; simp [go_sem]
    have HSZ := Lib.hid (show W.heap.size = w.heap.size + 1 by subst hW; simp)
    clear hW

    refine (HG.out _ hbW).mono ?_
    rintro e w1 ⟨rfl, hb1⟩
    have q0 := up_keep hb1 k0
    have hw1 := up_trans hbW hb1
    go_wp2_with (go_at_call 160; refine (l1In_any _ _ _ _).mono ?_; rintro e w1 ⟨rfl, rfl⟩)
    go_ret
    exact Ans.bool (by rw [HE.out]) hw1
set_option maxRecDepth 100000 in
set_option maxHeartbeats 2000000 in
theorem iSwapPlaces_g (v : Value) (d : TrD) (i j : Int) (w : World) (h : Trn w v d) (hn : d.n ≤ 1048576) (hm : d.m ≤ 1048576) (hl : d.l ≤ 1048576) : Calls Try.prog 35 #[v, .int .i64 i, .int .i64 j] w (AnsTB w (spD d i j) (spB d i j)) := by
  obtain ⟨f, t, p, rfl, hf, ht, hp⟩ := h
  have HF := Lib.hid hf
  have HT := Lib.hid ht
  have HP := Lib.hid hp
  obtain ⟨A1, c1, rfl, b1⟩ := hf.shape
  obtain ⟨A2, c2, rfl, b2⟩ := ht.shape
  obtain ⟨A3, c3, rfl, b3⟩ := hp.shape
  clear hf ht hp
  have HTr := Lib.hid (fun W (hW : Below w.heap.size w W) => (show Trn W (.agg #[.slice A1 d.n c1, .slice A2 d.m c2, .int .i64 d.c, .slice A3 d.l c3]) d from ⟨_, _, _, rfl, HF.out.up hW, HT.out.up hW, HP.out.up hW⟩))
  have H1 := Lib.hid (fun W hW => isPerformer_g _ d i W (HTr.out W hW) hn hm hl)
  have H2 := Lib.hid (fun W hW => isPerformer_g _ d j W (HTr.out W hW) hn hm hl)
  cases e1 : pfB d i with
  | false =>
    rw [e1] at H1
    rw [show spD d i j = TrD.zero by simp [spD, spB, e1], show spB d i j = false by simp [spB, e1]]
    clear e1
    go_enter Try.func35, Try.ntmps35
    go_wp2_with fail
    generalize hW : World.alloc _ _ = W0 at *
    have hbW : Below w.heap.size w W0 := by subst hW; (repeat (first | with_reducible exact Below.refl _ _ | with_reducible assumption | with_reducible refine up_alloc ?_ _ | with_reducible refine up_drew ?_ | with_reducible refine up_drewN ?_ _ | (with_reducible refine up_set ?_ ?hset _; case hset => first | (simp; done) | (simp; omega) | omega) | with_reducible refine up_trans ?_ (by with_reducible assumption)))
    have k0 : W0.cell? ⟨w.heap.size + 1, 0, none⟩ = some (.slice none 0 0) := by subst hW; simp [go_sem]
    have k1 : W0.cell? ⟨w.heap.size + 1, 1, none⟩ = some (.slice none 0 0) := by subst hW; simp [go_sem]
    have k2 : W0.cell? ⟨w.heap.size + 1, 2, none⟩ = some (.int .i64 0) := by subst hW; simp [go_sem]
    have k3 : W0.cell? ⟨w.heap.size + 1, 3, none⟩ = some (.slice none 0 0) := by subst hW; simp [go_sem]
    have a0 : W0.cell? ⟨w.heap.size, 0, none⟩ = some (.slice A1 d.n c1) := by subst hW; simp [go_sem]
    have a1 : W0.cell? ⟨w.heap.size, 1, none⟩ = some (.slice A2 d.m c2) := by subst hW; simp [go_sem]
    have a2 : W0.cell? ⟨w.heap.size, 2, none⟩ = some (.int .i64 d.c) := by subst hW; simp [go_sem]
    have a3 : W0.cell? ⟨w.heap.size, 3, none⟩ = some (.slice A3 d.l c3) := by subst hW; simp [go_sem]
    have kf : Free W0 (w.heap.size + 1) := by subst hW; intro o; simp [go_sem]
    have hlt0 : w.heap.size + 1 < W0.heap.size := by subst hW; simp
    clear hW
    refine (H1.out _ hbW).mono ?_
    rintro e w1 ⟨rfl, hb1⟩
    replace k0 := up_keep hb1 k0
    replace k1 := up_keep hb1 k1
    replace k2 := up_keep hb1 k2
    replace k3 := up_keep hb1 k3
    replace a0 := up_keep hb1 a0
    replace a1 := up_keep hb1 a1
    replace a2 := up_keep hb1 a2
    replace a3 := up_keep hb1 a3
    have kf1 := kf.up hlt0 hb1
    have hs1 := hb1.size
    have hw1 := up_trans hbW hb1
    have fz0 := kf1 0; have fz1 := kf1 1; have fz2 := kf1 2; have fz3 := kf1 3
    go_wp2_with fail
    obtain ⟨p0, p1, p2, p3⟩ := put4_cells k0 k1 k2 k3 (.slice none 0 0) (.slice none 0 0) (.int .i64 0) (.slice none 0 0)
    have hT := put4_turned (lo := w.heap.size + 1) (hi := W0.heap.size) (w := w1) (b := w.heap.size + 1) (by omega) (by omega) (.slice none 0 0) (.slice none 0 0) (.int .i64 0) (.slice none 0 0)
    unfold put4 at p0 p1 p2 p3 hT
    generalize hW8 : World.setCell (World.setCell (World.setCell (World.setCell w1 _ _) _ _) _ _) _ _ = W8 at *
    clear hW8
    refine bodyPost_ret (v := .tuple #[.agg #[.slice none 0 0, .slice none 0 0, .int .i64 0, .slice none 0 0], .bool false]) (by simp [results, Try.results35, go_sem, p0, p1, p2, p3]) rfl ?_
    exact ⟨_, rfl, OwnT.zero, hw1.trans ((hT.below (by omega)).mono (by omega))⟩
  | true =>
    rw [e1] at H1
    cases e2 : pfB d j with
    | false =>
      rw [e2] at H2
      rw [show spD d i j = TrD.zero by simp [spD, spB, e2], show spB d i j = false by simp [spB, e2]]
      clear e1 e2
      go_enter Try.func35, Try.ntmps35
      go_wp2_with fail
      generalize hW : World.alloc _ _ = W0 at *
      have hbW : Below w.heap.size w W0 := by subst hW; (repeat (first | with_reducible exact Below.refl _ _ | with_reducible assumption | with_reducible refine up_alloc ?_ _ | with_reducible refine up_drew ?_ | with_reducible refine up_drewN ?_ _ | (with_reducible refine up_set ?_ ?hset _; case hset => first | (simp; done) | (simp; omega) | omega) | with_reducible refine up_trans ?_ (by with_reducible assumption)))
      have k0 : W0.cell? ⟨w.heap.size + 1, 0, none⟩ = some (.slice none 0 0) := by subst hW; simp [go_sem]
      have k1 : W0.cell? ⟨w.heap.size + 1, 1, none⟩ = some (.slice none 0 0) := by subst hW; simp [go_sem]
      have k2 : W0.cell? ⟨w.heap.size + 1, 2, none⟩ = some (.int .i64 0) := by subst hW; simp [go_sem]
      have k3 : W0.cell? ⟨w.heap.size + 1, 3, none⟩ = some (.slice none 0 0) := by subst hW; simp [go_sem]
      have a0 : W0.cell? ⟨w.heap.size, 0, none⟩ = some (.slice A1 d.n c1) := by subst hW; simp [go_sem]
      have a1 : W0.cell? ⟨w.heap.size, 1, none⟩ = some (.slice A2 d.m c2) := by subst hW; simp [go_sem]
      have a2 : W0.cell? ⟨w.heap.size, 2, none⟩ = some (.int .i64 d.c) := by subst hW; simp [go_sem]
      have a3 : W0.cell? ⟨w.heap.size, 3, none⟩ = some (.slice A3 d.l c3) := by subst hW; simp [go_sem]
      have kf : Free W0 (w.heap.size + 1) := by subst hW; intro o; simp [go_sem]
      have hlt0 : w.heap.size + 1 < W0.heap.size := by subst hW; simp
      clear hW
      refine (H1.out _ hbW).mono ?_
      rintro e w1 ⟨rfl, hb1⟩
      replace k0 := up_keep hb1 k0
      replace k1 := up_keep hb1 k1
      replace k2 := up_keep hb1 k2
      replace k3 := up_keep hb1 k3
      replace a0 := up_keep hb1 a0
      replace a1 := up_keep hb1 a1
      replace a2 := up_keep hb1 a2
      replace a3 := up_keep hb1 a3
      have kf1 := kf.up hlt0 hb1
      have hs1 := hb1.size
      have hw1 := up_trans hbW hb1
      go_wp2_with fail
      refine (H2.out _ hw1).mono ?_
      rintro e w2 ⟨rfl, hb2⟩
      replace k0 := up_keep hb2 k0
      replace k1 := up_keep hb2 k1
      replace k2 := up_keep hb2 k2
      replace k3 := up_keep hb2 k3
      replace a0 := up_keep hb2 a0
      replace a1 := up_keep hb2 a1
      replace a2 := up_keep hb2 a2
      replace a3 := up_keep hb2 a3
      have kf2 := kf1.up (by omega) hb2
      have hs2 := hb2.size
      have hw2 := up_trans hw1 hb2
      have fz0 := kf2 0; have fz1 := kf2 1; have fz2 := kf2 2; have fz3 := kf2 3
      go_wp2_with fail
      obtain ⟨p0, p1, p2, p3⟩ := put4_cells k0 k1 k2 k3 (.slice none 0 0) (.slice none 0 0) (.int .i64 0) (.slice none 0 0)
      have hT := put4_turned (lo := w.heap.size + 1) (hi := W0.heap.size) (w := w2) (b := w.heap.size + 1) (by omega) (by omega) (.slice none 0 0) (.slice none 0 0) (.int .i64 0) (.slice none 0 0)
      unfold put4 at p0 p1 p2 p3 hT
      generalize hW8 : World.setCell (World.setCell (World.setCell (World.setCell w2 _ _) _ _) _ _) _ _ = W8 at *
      clear hW8
      refine bodyPost_ret (v := .tuple #[.agg #[.slice none 0 0, .slice none 0 0, .int .i64 0, .slice none 0 0], .bool false]) (by simp [results, Try.results35, go_sem, p0, p1, p2, p3]) rfl ?_
      exact ⟨_, rfl, OwnT.zero, hw2.trans ((hT.below (by omega)).mono (by omega))⟩
    | true =>
      rw [e2] at H2
      rw [show spD d i j = swT d i.toNat j.toNat by simp [spD, spB, e1, e2], show spB d i j = true by simp [spB, e1, e2]]
      have e3 := e1
      simp only [pfB, Bool.and_eq_true] at e1 e2
      have hk := TrOk.of e1.1
      have hlp := hk.lp
      obtain ⟨i1, i2⟩ := inB_iff.1 e1.2
      obtain ⟨j1, j2⟩ := inB_iff.1 e2.2
      obtain ⟨I, rfl⟩ : ∃ I : Nat, i = I := ⟨i.toNat, by omega⟩
      obtain ⟨J, rfl⟩ : ∃ J : Nat, j = J := ⟨j.toNat, by omega⟩
      rw [show ((I : Int)).toNat = I by omega, show ((J : Int)).toNat = J by omega]
      have HS := Lib.hid (fun W hW => swapPlaces_g _ d I J W (HTr.out W hW) (by omega) (by omega) hn hm hl)
      clear e1 e2 e3 hk
      go_enter Try.func35, Try.ntmps35
      go_wp2_with fail
      generalize hW : World.alloc _ _ = W0 at *
      have hbW : Below w.heap.size w W0 := by subst hW; (repeat (first | with_reducible exact Below.refl _ _ | with_reducible assumption | with_reducible refine up_alloc ?_ _ | with_reducible refine up_drew ?_ | with_reducible refine up_drewN ?_ _ | (with_reducible refine up_set ?_ ?hset _; case hset => first | (simp; done) | (simp; omega) | omega) | with_reducible refine up_trans ?_ (by with_reducible assumption)))
      have k0 : W0.cell? ⟨w.heap.size + 1, 0, none⟩ = some (.slice none 0 0) := by subst hW; simp [go_sem]
      have k1 : W0.cell? ⟨w.heap.size + 1, 1, none⟩ = some (.slice none 0 0) := by subst hW; simp [go_sem]
      have k2 : W0.cell? ⟨w.heap.size + 1, 2, none⟩ = some (.int .i64 0) := by subst hW; simp [go_sem]
      have k3 : W0.cell? ⟨w.heap.size + 1, 3, none⟩ = some (.slice none 0 0) := by subst hW; simp [go_sem]
      have a0 : W0.cell? ⟨w.heap.size, 0, none⟩ = some (.slice A1 d.n c1) := by subst hW; simp [go_sem]
      have a1 : W0.cell? ⟨w.heap.size, 1, none⟩ = some (.slice A2 d.m c2) := by subst hW; simp [go_sem]
      have a2 : W0.cell? ⟨w.heap.size, 2, none⟩ = some (.int .i64 d.c) := by subst hW; simp [go_sem]
      have a3 : W0.cell? ⟨w.heap.size, 3, none⟩ = some (.slice A3 d.l c3) := by subst hW; simp [go_sem]
      have kf : Free W0 (w.heap.size + 1) := by subst hW; intro o; simp [go_sem]
      have hlt0 : w.heap.size + 1 < W0.heap.size := by subst hW; simp
      clear hW
      refine (H1.out _ hbW).mono ?_
      rintro e w1 ⟨rfl, hb1⟩
      replace k0 := up_keep hb1 k0
      replace k1 := up_keep hb1 k1
      replace k2 := up_keep hb1 k2
      replace k3 := up_keep hb1 k3
      replace a0 := up_keep hb1 a0
      replace a1 := up_keep hb1 a1
      replace a2 := up_keep hb1 a2
      replace a3 := up_keep hb1 a3
      have kf1 := kf.up hlt0 hb1
      have hs1 := hb1.size
      have hw1 := up_trans hbW hb1
      go_wp2_with fail
      refine (H2.out _ hw1).mono ?_
      rintro e w2 ⟨rfl, hb2⟩
      replace k0 := up_keep hb2 k0
      replace k1 := up_keep hb2 k1
      replace k2 := up_keep hb2 k2
      replace k3 := up_keep hb2 k3
      replace a0 := up_keep hb2 a0
      replace a1 := up_keep hb2 a1
      replace a2 := up_keep hb2 a2
      replace a3 := up_keep hb2 a3
      have kf2 := kf1.up (by omega) hb2
      have hs2 := hb2.size
      have hw2 := up_trans hw1 hb2
      go_wp2_with fail
      refine (HS.out _ hw2).mono ?_
      rintro e w3 ⟨u, rfl, hu, hb3⟩
      obtain ⟨f3, t3, p3, he3, g1, g2, g3, _⟩ := id hu
      dsimp only [swT] at he3 g1 g2 g3
      obtain ⟨B1, q1, rfl, _⟩ := g1.shape
      obtain ⟨B2, q2, rfl, _⟩ := g2.shape
      obtain ⟨B3, q3, rfl, _⟩ := g3.shape
      subst he3
      clear g1 g2 g3
      replace k0 := up_keep hb3 k0
      replace k1 := up_keep hb3 k1
      replace k2 := up_keep hb3 k2
      replace k3 := up_keep hb3 k3
      replace a0 := up_keep hb3 a0
      replace a1 := up_keep hb3 a1
      replace a2 := up_keep hb3 a2
      replace a3 := up_keep hb3 a3
      have kf3 := kf2.up (by omega) hb3
      have hs3 := hb3.size
      have hw3 := up_trans hw2 hb3
      have fz0 := kf3 0; have fz1 := kf3 1; have fz2 := kf3 2; have fz3 := kf3 3
      go_wp2_with fail
      obtain ⟨p0, p1, p2, p3⟩ := put4_cells k0 k1 k2 k3 (.slice B1 d.n q1) (.slice B2 d.m q2) (.int .i64 d.c) (.slice B3 d.l q3)
      have hT := put4_turned (lo := w.heap.size + 1) (hi := W0.heap.size) (w := w3) (b := w.heap.size + 1) (by omega) (by omega) (.slice B1 d.n q1) (.slice B2 d.m q2) (.int .i64 d.c) (.slice B3 d.l q3)
      unfold put4 at p0 p1 p2 p3 hT
      generalize hW8 : World.setCell (World.setCell (World.setCell (World.setCell w3 _ _) _ _) _ _) _ _ = W8 at *
      clear hW8
      refine bodyPost_ret (v := .tuple #[.agg #[.slice B1 d.n q1, .slice B2 d.m q2, .int .i64 d.c, .slice B3 d.l q3], .bool true]) (by simp [results, Try.results35, go_sem, p0, p1, p2, p3]) rfl ?_
      exact ⟨_, rfl, (hu.turn hT (by omega)).more (by omega), hw3.trans ((hT.below (by omega)).mono (by omega))⟩
set_option maxRecDepth 100000 in
set_option maxHeartbeats 2000000 in
theorem sSwapPlaces_g (v : Value) (d : TrD) (i j : Int) (w : World) (h : Trn w v d) (hn : d.n ≤ 1048576) (hm : d.m ≤ 1048576) (hl : d.l ≤ 1048576) : Calls Try.prog 34 #[v, .int .i64 i, .int .i64 j] w (AnsTB w (spD d i j) (spB d i j)) := by
  obtain ⟨f, t, p, rfl, hf, ht, hp⟩ := h
  have HF := Lib.hid hf
  have HT := Lib.hid ht
  have HP := Lib.hid hp
  obtain ⟨A1, c1, rfl, b1⟩ := hf.shape
  obtain ⟨A2, c2, rfl, b2⟩ := ht.shape
  obtain ⟨A3, c3, rfl, b3⟩ := hp.shape
  clear hf ht hp
  have HTr := Lib.hid (fun W (hW : Below w.heap.size w W) => (show Trn W (.agg #[.slice A1 d.n c1, .slice A2 d.m c2, .int .i64 d.c, .slice A3 d.l c3]) d from ⟨_, _, _, rfl, HF.out.up hW, HT.out.up hW, HP.out.up hW⟩))
  have H1 := Lib.hid (fun W hW => asHas_g _ d i W (HTr.out W hW) hn hm hl)
  have H2 := Lib.hid (fun W hW => asHas_g _ d j W (HTr.out W hW) hn hm hl)
  cases e1 : pfB d i with
  | false =>
    rw [e1] at H1
    rw [show spD d i j = TrD.zero by simp [spD, spB, e1], show spB d i j = false by simp [spB, e1]]
    clear e1
    go_enter Try.func34, Try.ntmps34
    go_wp2_with fail
    generalize hW : World.alloc _ _ = W0 at *
    have hbW : Below w.heap.size w W0 := by subst hW; (repeat (first | with_reducible exact Below.refl _ _ | with_reducible assumption | with_reducible refine up_alloc ?_ _ | with_reducible refine up_drew ?_ | with_reducible refine up_drewN ?_ _ | (with_reducible refine up_set ?_ ?hset _; case hset => first | (simp; done) | (simp; omega) | omega) | with_reducible refine up_trans ?_ (by with_reducible assumption)))
    have k0 : W0.cell? ⟨w.heap.size + 1, 0, none⟩ = some (.slice none 0 0) := by subst hW; simp [go_sem]
    have k1 : W0.cell? ⟨w.heap.size + 1, 1, none⟩ = some (.slice none 0 0) := by subst hW; simp [go_sem]
    have k2 : W0.cell? ⟨w.heap.size + 1, 2, none⟩ = some (.int .i64 0) := by subst hW; simp [go_sem]
    have k3 : W0.cell? ⟨w.heap.size + 1, 3, none⟩ = some (.slice none 0 0) := by subst hW; simp [go_sem]
    have a0 : W0.cell? ⟨w.heap.size, 0, none⟩ = some (.slice A1 d.n c1) := by subst hW; simp [go_sem]
    have a1 : W0.cell? ⟨w.heap.size, 1, none⟩ = some (.slice A2 d.m c2) := by subst hW; simp [go_sem]
    have a2 : W0.cell? ⟨w.heap.size, 2, none⟩ = some (.int .i64 d.c) := by subst hW; simp [go_sem]
    have a3 : W0.cell? ⟨w.heap.size, 3, none⟩ = some (.slice A3 d.l c3) := by subst hW; simp [go_sem]
    have kf : Free W0 (w.heap.size + 1) := by subst hW; intro o; simp [go_sem]
    have hlt0 : w.heap.size + 1 < W0.heap.size := by subst hW; simp
    clear hW
    refine (H1.out _ hbW).mono ?_
    rintro e w1 ⟨rfl, hb1⟩
    replace k0 := up_keep hb1 k0
    replace k1 := up_keep hb1 k1
    replace k2 := up_keep hb1 k2
    replace k3 := up_keep hb1 k3
    replace a0 := up_keep hb1 a0
    replace a1 := up_keep hb1 a1
    replace a2 := up_keep hb1 a2
    replace a3 := up_keep hb1 a3
    have kf1 := kf.up hlt0 hb1
    have hs1 := hb1.size
    have hw1 := up_trans hbW hb1
    have fz0 := kf1 0; have fz1 := kf1 1; have fz2 := kf1 2; have fz3 := kf1 3
    go_wp2_with fail
    obtain ⟨p0, p1, p2, p3⟩ := put4_cells k0 k1 k2 k3 (.slice none 0 0) (.slice none 0 0) (.int .i64 0) (.slice none 0 0)
    have hT := put4_turned (lo := w.heap.size + 1) (hi := W0.heap.size) (w := w1) (b := w.heap.size + 1) (by omega) (by omega) (.slice none 0 0) (.slice none 0 0) (.int .i64 0) (.slice none 0 0)
    unfold put4 at p0 p1 p2 p3 hT
    generalize hW8 : World.setCell (World.setCell (World.setCell (World.setCell w1 _ _) _ _) _ _) _ _ = W8 at *
    clear hW8
    refine bodyPost_ret (v := .tuple #[.agg #[.slice none 0 0, .slice none 0 0, .int .i64 0, .slice none 0 0], .bool false]) (by simp [results, Try.results34, go_sem, p0, p1, p2, p3]) rfl ?_
    exact ⟨_, rfl, OwnT.zero, hw1.trans ((hT.below (by omega)).mono (by omega))⟩
  | true =>
    rw [e1] at H1
    cases e2 : pfB d j with
    | false =>
      rw [e2] at H2
      rw [show spD d i j = TrD.zero by simp [spD, spB, e2], show spB d i j = false by simp [spB, e2]]
      clear e1 e2
      go_enter Try.func34, Try.ntmps34
      go_wp2_with fail
      generalize hW : World.alloc _ _ = W0 at *
      have hbW : Below w.heap.size w W0 := by subst hW; (repeat (first | with_reducible exact Below.refl _ _ | with_reducible assumption | with_reducible refine up_alloc ?_ _ | with_reducible refine up_drew ?_ | with_reducible refine up_drewN ?_ _ | (with_reducible refine up_set ?_ ?hset _; case hset => first | (simp; done) | (simp; omega) | omega) | with_reducible refine up_trans ?_ (by with_reducible assumption)))
      have k0 : W0.cell? ⟨w.heap.size + 1, 0, none⟩ = some (.slice none 0 0) := by subst hW; simp [go_sem]
      have k1 : W0.cell? ⟨w.heap.size + 1, 1, none⟩ = some (.slice none 0 0) := by subst hW; simp [go_sem]
      have k2 : W0.cell? ⟨w.heap.size + 1, 2, none⟩ = some (.int .i64 0) := by subst hW; simp [go_sem]
      have k3 : W0.cell? ⟨w.heap.size + 1, 3, none⟩ = some (.slice none 0 0) := by subst hW; simp [go_sem]
      have a0 : W0.cell? ⟨w.heap.size, 0, none⟩ = some (.slice A1 d.n c1) := by subst hW; simp [go_sem]
      have a1 : W0.cell? ⟨w.heap.size, 1, none⟩ = some (.slice A2 d.m c2) := by subst hW; simp [go_sem]
      have a2 : W0.cell? ⟨w.heap.size, 2, none⟩ = some (.int .i64 d.c) := by subst hW; simp [go_sem]
      have a3 : W0.cell? ⟨w.heap.size, 3, none⟩ = some (.slice A3 d.l c3) := by subst hW; simp [go_sem]
      have kf : Free W0 (w.heap.size + 1) := by subst hW; intro o; simp [go_sem]
      have hlt0 : w.heap.size + 1 < W0.heap.size := by subst hW; simp
      clear hW
      refine (H1.out _ hbW).mono ?_
      rintro e w1 ⟨rfl, hb1⟩
      replace k0 := up_keep hb1 k0
      replace k1 := up_keep hb1 k1
      replace k2 := up_keep hb1 k2
      replace k3 := up_keep hb1 k3
      replace a0 := up_keep hb1 a0
      replace a1 := up_keep hb1 a1
      replace a2 := up_keep hb1 a2
      replace a3 := up_keep hb1 a3
      have kf1 := kf.up hlt0 hb1
      have hs1 := hb1.size
      have hw1 := up_trans hbW hb1
      go_wp2_with fail
      refine (H2.out _ hw1).mono ?_
      rintro e w2 ⟨rfl, hb2⟩
      replace k0 := up_keep hb2 k0
      replace k1 := up_keep hb2 k1
      replace k2 := up_keep hb2 k2
      replace k3 := up_keep hb2 k3
      replace a0 := up_keep hb2 a0
      replace a1 := up_keep hb2 a1
      replace a2 := up_keep hb2 a2
      replace a3 := up_keep hb2 a3
      have kf2 := kf1.up (by omega) hb2
      have hs2 := hb2.size
      have hw2 := up_trans hw1 hb2
      have fz0 := kf2 0; have fz1 := kf2 1; have fz2 := kf2 2; have fz3 := kf2 3
      go_wp2_with fail
      obtain ⟨p0, p1, p2, p3⟩ := put4_cells k0 k1 k2 k3 (.slice none 0 0) (.slice none 0 0) (.int .i64 0) (.slice none 0 0)
      have hT := put4_turned (lo := w.heap.size + 1) (hi := W0.heap.size) (w := w2) (b := w.heap.size + 1) (by omega) (by omega) (.slice none 0 0) (.slice none 0 0) (.int .i64 0) (.slice none 0 0)
      unfold put4 at p0 p1 p2 p3 hT
      generalize hW8 : World.setCell (World.setCell (World.setCell (World.setCell w2 _ _) _ _) _ _) _ _ = W8 at *
      clear hW8
      refine bodyPost_ret (v := .tuple #[.agg #[.slice none 0 0, .slice none 0 0, .int .i64 0, .slice none 0 0], .bool false]) (by simp [results, Try.results34, go_sem, p0, p1, p2, p3]) rfl ?_
      exact ⟨_, rfl, OwnT.zero, hw2.trans ((hT.below (by omega)).mono (by omega))⟩
    | true =>
      rw [e2] at H2
      rw [show spD d i j = swT d i.toNat j.toNat by simp [spD, spB, e1, e2], show spB d i j = true by simp [spB, e1, e2]]
      have e3 := e1
      simp only [pfB, Bool.and_eq_true] at e1 e2
      have hk := TrOk.of e1.1
      have hlp := hk.lp
      obtain ⟨i1, i2⟩ := inB_iff.1 e1.2
      obtain ⟨j1, j2⟩ := inB_iff.1 e2.2
      obtain ⟨I, rfl⟩ : ∃ I : Nat, i = I := ⟨i.toNat, by omega⟩
      obtain ⟨J, rfl⟩ : ∃ J : Nat, j = J := ⟨j.toNat, by omega⟩
      rw [show ((I : Int)).toNat = I by omega, show ((J : Int)).toNat = J by omega]
      have HS := Lib.hid (fun W hW => asSwap_g _ d I J W (HTr.out W hW) (by omega) (by omega) hn hm hl)
      clear e1 e2 e3 hk
      go_enter Try.func34, Try.ntmps34
      go_wp2_with fail
      generalize hW : World.alloc _ _ = W0 at *
      have hbW : Below w.heap.size w W0 := by subst hW; (repeat (first | with_reducible exact Below.refl _ _ | with_reducible assumption | with_reducible refine up_alloc ?_ _ | with_reducible refine up_drew ?_ | with_reducible refine up_drewN ?_ _ | (with_reducible refine up_set ?_ ?hset _; case hset => first | (simp; done) | (simp; omega) | omega) | with_reducible refine up_trans ?_ (by with_reducible assumption)))
      have k0 : W0.cell? ⟨w.heap.size + 1, 0, none⟩ = some (.slice none 0 0) := by subst hW; simp [go_sem]
      have k1 : W0.cell? ⟨w.heap.size + 1, 1, none⟩ = some (.slice none 0 0) := by subst hW; simp [go_sem]
      have k2 : W0.cell? ⟨w.heap.size + 1, 2, none⟩ = some (.int .i64 0) := by subst hW; simp [go_sem]
      have k3 : W0.cell? ⟨w.heap.size + 1, 3, none⟩ = some (.slice none 0 0) := by subst hW; simp [go_sem]
      have a0 : W0.cell? ⟨w.heap.size, 0, none⟩ = some (.slice A1 d.n c1) := by subst hW; simp [go_sem]
      have a1 : W0.cell? ⟨w.heap.size, 1, none⟩ = some (.slice A2 d.m c2) := by subst hW; simp [go_sem]
      have a2 : W0.cell? ⟨w.heap.size, 2, none⟩ = some (.int .i64 d.c) := by subst hW; simp [go_sem]
      have a3 : W0.cell? ⟨w.heap.size, 3, none⟩ = some (.slice A3 d.l c3) := by subst hW; simp [go_sem]
      have kf : Free W0 (w.heap.size + 1) := by subst hW; intro o; simp [go_sem]
      have hlt0 : w.heap.size + 1 < W0.heap.size := by subst hW; simp
      clear hW
      refine (H1.out _ hbW).mono ?_
      rintro e w1 ⟨rfl, hb1⟩
      replace k0 := up_keep hb1 k0
      replace k1 := up_keep hb1 k1
      replace k2 := up_keep hb1 k2
      replace k3 := up_keep hb1 k3
      replace a0 := up_keep hb1 a0
      replace a1 := up_keep hb1 a1
      replace a2 := up_keep hb1 a2
      replace a3 := up_keep hb1 a3
      have kf1 := kf.up hlt0 hb1
      have hs1 := hb1.size
      have hw1 := up_trans hbW hb1
      go_wp2_with fail
      refine (H2.out _ hw1).mono ?_
      rintro e w2 ⟨rfl, hb2⟩
      replace k0 := up_keep hb2 k0
      replace k1 := up_keep hb2 k1
      replace k2 := up_keep hb2 k2
      replace k3 := up_keep hb2 k3
      replace a0 := up_keep hb2 a0
      replace a1 := up_keep hb2 a1
      replace a2 := up_keep hb2 a2
      replace a3 := up_keep hb2 a3
      have kf2 := kf1.up (by omega) hb2
      have hs2 := hb2.size
      have hw2 := up_trans hw1 hb2
      go_wp2_with fail
      refine (HS.out _ hw2).mono ?_
      rintro e w3 ⟨u, rfl, hu, hb3⟩
      obtain ⟨f3, t3, p3, he3, g1, g2, g3, _⟩ := id hu
      dsimp only [swT] at he3 g1 g2 g3
      obtain ⟨B1, q1, rfl, _⟩ := g1.shape
      obtain ⟨B2, q2, rfl, _⟩ := g2.shape
      obtain ⟨B3, q3, rfl, _⟩ := g3.shape
      subst he3
      clear g1 g2 g3
      replace k0 := up_keep hb3 k0
      replace k1 := up_keep hb3 k1
      replace k2 := up_keep hb3 k2
      replace k3 := up_keep hb3 k3
      replace a0 := up_keep hb3 a0
      replace a1 := up_keep hb3 a1
      replace a2 := up_keep hb3 a2
      replace a3 := up_keep hb3 a3
      have kf3 := kf2.up (by omega) hb3
      have hs3 := hb3.size
      have hw3 := up_trans hw2 hb3
      have fz0 := kf3 0; have fz1 := kf3 1; have fz2 := kf3 2; have fz3 := kf3 3
      go_wp2_with fail
      obtain ⟨p0, p1, p2, p3⟩ := put4_cells k0 k1 k2 k3 (.slice B1 d.n q1) (.slice B2 d.m q2) (.int .i64 d.c) (.slice B3 d.l q3)
      have hT := put4_turned (lo := w.heap.size + 1) (hi := W0.heap.size) (w := w3) (b := w.heap.size + 1) (by omega) (by omega) (.slice B1 d.n q1) (.slice B2 d.m q2) (.int .i64 d.c) (.slice B3 d.l q3)
      unfold put4 at p0 p1 p2 p3 hT
      generalize hW8 : World.setCell (World.setCell (World.setCell (World.setCell w3 _ _) _ _) _ _) _ _ = W8 at *
      clear hW8
      refine bodyPost_ret (v := .tuple #[.agg #[.slice B1 d.n q1, .slice B2 d.m q2, .int .i64 d.c, .slice B3 d.l q3], .bool true]) (by simp [results, Try.results34, go_sem, p0, p1, p2, p3]) rfl ?_
      exact ⟨_, rfl, (hu.turn hT (by omega)).more (by omega), hw3.trans ((hT.below (by omega)).mono (by omega))⟩
end Go.Proofs.Ytkmnkodgmngaeaa
