/-
  IsTransition on both sides.
-/
import Derived.Test.YtkmnkodgmngaeaaRows
import Derived.Test.YtkmnkodgmngaeaaBase
import Derived.Test.YtkmnkodgmngaeaaSpot
import Derived.Test.YtkmnkodgmngaeaaSlice
import Derived.Test.YtkmnkodgmngaeaaChart
import Derived.Test.YtkmnkodgmngaeaaLawS
import Derived.Test.YtkmnkodgmngaeaaMark
import Derived.Test.YtkmnkodgmngaeaaOpen
import Derived.Test.YtkmnkodgmngaeaaTrod
import Derived.Test.YtkmnkodgmngaeaaInts
import Derived.Test.YtkmnkodgmngaeaaIntsL
import Derived.Test.YtkmnkodgmngaeaaTurned
import Derived.Test.YtkmnkodgmngaeaaTrans
import Derived.Test.YtkmnkodgmngaeaaMatch
import Derived.Test.YtkmnkodgmngaeaaChanged

namespace Go.Proofs.Ytkmnkodgmngaeaa
open Go.RowKit Go.ChangeShapes Go.WideShapes Go.Sort


/-- A valid transition. -/
def trB (d : TrD) : Bool := (cpB d.n d.X d.Y d.m d.U d.V && inB d.c 1 64) && mtB d.n d.l d.P
theorem trB_iff {d : TrD} (h : trB d = true) : chartB d.n d.X d.Y = true ∧ chartB d.m d.U d.V = true ∧ d.n = d.m ∧ (1 ≤ d.c ∧ d.c ≤ 64) ∧ mtB d.n d.l d.P = true := by
  simp only [trB, cpB, Bool.and_eq_true, decide_eq_true_eq] at h
  exact ⟨h.1.1.1.1, h.1.1.1.2, h.1.1.2, inB_iff.1 h.1.2, h.2⟩
theorem mtB_iff {n l : Nat} {P : Nat → Int} (h : mtB n l P = true) : l = n ∧ ∀ i, i < l → 0 ≤ P i ∧ P i ≤ (n : Int) - 1 := by
  simp only [mtB, Bool.and_eq_true, beq_iff_eq] at h
  refine ⟨h.2, fun i hi => ?_⟩
  have := allB_iff.1 h.1 i hi
  simp only [Bool.and_eq_true] at this
  exact inB_iff.1 this.1
set_option maxRecDepth 100000 in
set_option maxHeartbeats 2000000 in
theorem isTransition_g (v : Value) (d : TrD) (w : World) (h : Trn w v d) (hn : d.n ≤ 1048576) (hm : d.m ≤ 1048576) (hl : d.l ≤ 1048576) :
    Calls Try.prog 119 #[v] w (Ans w (.bool (trB d))) := by
  obtain ⟨f, t, p, rfl, hf, ht, hp⟩ := h
  have HF := Lib.hid hf
  have HT := Lib.hid ht
  have HP := Lib.hid hp
  obtain ⟨A1, c1, rfl, b1⟩ := hf.shape
  obtain ⟨A2, c2, rfl, b2⟩ := ht.shape
  obtain ⟨A3, c3, rfl, b3⟩ := hp.shape
  clear hf ht hp
  have HC1 := Lib.hid (fun W (hW : Below w.heap.size w W) => isChart_g _ d.n d.X d.Y W (HF.out.up hW) (by omega))
  have HC2 := Lib.hid (fun W (hW : Below w.heap.size w W) => isChart_g _ d.m d.U d.V W (HT.out.up hW) (by omega))
  cases e1 : chartB d.n d.X d.Y with
  | false =>
    rw [e1] at HC1
    have HE := Lib.hid (show trB d = false by simp [trB, cpB, e1])
    go_enter Try.func119, Try.ntmps119
    go_wp2_with fail
    generalize hW : World.alloc _ _ = W at *
    have hbW : Below w.heap.size w W := by subst hW; (repeat (first | with_reducible exact Below.refl _ _ | with_reducible assumption | with_reducible refine up_alloc ?_ _ | with_reducible refine up_drew ?_ | with_reducible refine up_drewN ?_ _ | (with_reducible refine up_set ?_ ?hset _; case hset => first | (simp; done) | (simp; omega) | omega) | with_reducible refine up_trans ?_ (by with_reducible assumption)))
    have k0 : W.cell? ⟨w.heap.size, 0, none⟩ = some (.slice A1 d.n c1) := by subst hW; simp [go_sem]
    have k1 : W.cell? ⟨w.heap.size, 1, none⟩ = some (.slice A2 d.m c2) := by subst hW; simp [go_sem]
    have k2 : W.cell? ⟨w.heap.size, 2, none⟩ = some (.int .i64 d.c) := by subst hW; simp [go_sem]
    have k3 : W.cell? ⟨w.heap.size, 3, none⟩ = some (.slice A3 d.l c3) := by subst hW; simp [go_sem]
    clear hW
    refine (HC1.out _ hbW).mono ?_
    rintro e w1 ⟨rfl, hb1⟩
    have q0 := up_keep hb1 k0; have q1 := up_keep hb1 k1; have q2 := up_keep hb1 k2; have q3 := up_keep hb1 k3
    have hw1 := up_trans hbW hb1
    go_wp2_with fail
    go_ret
    exact Ans.bool (by rw [HE.out]) hw1
  | true =>
    rw [e1] at HC1
    have g1 := (chartB_iff.1 e1).1
    have HM := Lib.hid (fun W (hW : Below w.heap.size w W) => isMatching_g _ d.n d.l d.P W (HP.out.up hW) hl (by omega))
    cases e2 : chartB d.m d.U d.V with
    | false =>
      rw [e2] at HC2
      have HE := Lib.hid (show trB d = false by simp [trB, cpB, e2])
      go_enter Try.func119, Try.ntmps119
      go_wp2_with fail
      generalize hW : World.alloc _ _ = W at *
      have hbW : Below w.heap.size w W := by subst hW; (repeat (first | with_reducible exact Below.refl _ _ | with_reducible assumption | with_reducible refine up_alloc ?_ _ | with_reducible refine up_drew ?_ | with_reducible refine up_drewN ?_ _ | (with_reducible refine up_set ?_ ?hset _; case hset => first | (simp; done) | (simp; omega) | omega) | with_reducible refine up_trans ?_ (by with_reducible assumption)))
      have k0 : W.cell? ⟨w.heap.size, 0, none⟩ = some (.slice A1 d.n c1) := by subst hW; simp [go_sem]
      have k1 : W.cell? ⟨w.heap.size, 1, none⟩ = some (.slice A2 d.m c2) := by subst hW; simp [go_sem]
      have k2 : W.cell? ⟨w.heap.size, 2, none⟩ = some (.int .i64 d.c) := by subst hW; simp [go_sem]
      have k3 : W.cell? ⟨w.heap.size, 3, none⟩ = some (.slice A3 d.l c3) := by subst hW; simp [go_sem]
      clear hW
      refine (HC1.out _ hbW).mono ?_
      rintro e w1 ⟨rfl, hb1⟩
      have q0 := up_keep hb1 k0; have q1 := up_keep hb1 k1; have q2 := up_keep hb1 k2; have q3 := up_keep hb1 k3
      have hw1 := up_trans hbW hb1
      go_wp2_with fail
      refine (HC2.out _ hw1).mono ?_
      rintro e w2 ⟨rfl, hb2⟩
      have r0 := up_keep hb2 q0; have r1 := up_keep hb2 q1; have r2 := up_keep hb2 q2; have r3 := up_keep hb2 q3
      have hw2 := up_trans hw1 hb2
      go_wp2_with fail
      go_ret
      exact Ans.bool (by rw [HE.out]) hw2
    | true =>
      rw [e2] at HC2
      by_cases e3 : d.n = d.m
      · have hnm : ((d.n : Int) == (d.m : Int)) = true := by simp [e3]
        cases e4 : inB d.c 1 64 with
        | false =>
          have HE := Lib.hid (show trB d = false by simp [trB, e4])
          clear e1 e2 e3
          go_enter Try.func119, Try.ntmps119
          go_wp2_with fail
          generalize hW : World.alloc _ _ = W at *
          have hbW : Below w.heap.size w W := by subst hW; (repeat (first | with_reducible exact Below.refl _ _ | with_reducible assumption | with_reducible refine up_alloc ?_ _ | with_reducible refine up_drew ?_ | with_reducible refine up_drewN ?_ _ | (with_reducible refine up_set ?_ ?hset _; case hset => first | (simp; done) | (simp; omega) | omega) | with_reducible refine up_trans ?_ (by with_reducible assumption)))
          have k0 : W.cell? ⟨w.heap.size, 0, none⟩ = some (.slice A1 d.n c1) := by subst hW; simp [go_sem]
          have k1 : W.cell? ⟨w.heap.size, 1, none⟩ = some (.slice A2 d.m c2) := by subst hW; simp [go_sem]
          have k2 : W.cell? ⟨w.heap.size, 2, none⟩ = some (.int .i64 d.c) := by subst hW; simp [go_sem]
          have k3 : W.cell? ⟨w.heap.size, 3, none⟩ = some (.slice A3 d.l c3) := by subst hW; simp [go_sem]
          clear hW
          refine (HC1.out _ hbW).mono ?_
          rintro e w1 ⟨rfl, hb1⟩
          have q0 := up_keep hb1 k0; have q1 := up_keep hb1 k1; have q2 := up_keep hb1 k2; have q3 := up_keep hb1 k3
          have hw1 := up_trans hbW hb1
          go_wp2_with fail
          refine (HC2.out _ hw1).mono ?_
          rintro e w2 ⟨rfl, hb2⟩
          have r0 := up_keep hb2 q0; have r1 := up_keep hb2 q1; have r2 := up_keep hb2 q2; have r3 := up_keep hb2 q3
          have hw2 := up_trans hw1 hb2
          go_wp2_with (go_at_call 132; refine (within_any _ _ _ _).mono ?_; rintro e w1 ⟨rfl, rfl⟩)
          go_ret
          exact Ans.bool (by rw [HE.out]) hw2
        | true =>
          have HE := Lib.hid (show trB d = mtB d.n d.l d.P by unfold trB cpB; rw [e1, e2, e4, decide_eq_true e3]; rfl)
          clear e1 e2 e3
          go_enter Try.func119, Try.ntmps119
          go_wp2_with fail
          generalize hW : World.alloc _ _ = W at *
          have hbW : Below w.heap.size w W := by subst hW; (repeat (first | with_reducible exact Below.refl _ _ | with_reducible assumption | with_reducible refine up_alloc ?_ _ | with_reducible refine up_drew ?_ | with_reducible refine up_drewN ?_ _ | (with_reducible refine up_set ?_ ?hset _; case hset => first | (simp; done) | (simp; omega) | omega) | with_reducible refine up_trans ?_ (by with_reducible assumption)))
          have k0 : W.cell? ⟨w.heap.size, 0, none⟩ = some (.slice A1 d.n c1) := by subst hW; simp [go_sem]
          have k1 : W.cell? ⟨w.heap.size, 1, none⟩ = some (.slice A2 d.m c2) := by subst hW; simp [go_sem]
          have k2 : W.cell? ⟨w.heap.size, 2, none⟩ = some (.int .i64 d.c) := by subst hW; simp [go_sem]
          have k3 : W.cell? ⟨w.heap.size, 3, none⟩ = some (.slice A3 d.l c3) := by subst hW; simp [go_sem]
          clear hW
          refine (HC1.out _ hbW).mono ?_
          rintro e w1 ⟨rfl, hb1⟩
          have q0 := up_keep hb1 k0; have q1 := up_keep hb1 k1; have q2 := up_keep hb1 k2; have q3 := up_keep hb1 k3
          have hw1 := up_trans hbW hb1
          go_wp2_with fail
          refine (HC2.out _ hw1).mono ?_
          rintro e w2 ⟨rfl, hb2⟩
          have r0 := up_keep hb2 q0; have r1 := up_keep hb2 q1; have r2 := up_keep hb2 q2; have r3 := up_keep hb2 q3
          have hw2 := up_trans hw1 hb2
          go_wp2_with (go_at_call 132; refine (within_any _ _ _ _).mono ?_; rintro e w1 ⟨rfl, rfl⟩)
          refine (HM.out _ hw2).mono ?_
          rintro e w3 ⟨rfl, hb3⟩
          have hw3 := up_trans hw2 hb3
          go_wp2_with fail
          go_ret
          exact Ans.bool (by rw [HE.out]) hw3
      · have hnm : ((d.n : Int) == (d.m : Int)) = false := by simp; omega
        have HE := Lib.hid (show trB d = false by simp [trB, cpB, e3])
        clear e1 e2 e3
        go_enter Try.func119, Try.ntmps119
        go_wp2_with fail
        generalize hW : World.alloc _ _ = W at *
        have hbW : Below w.heap.size w W := by subst hW; (repeat (first | with_reducible exact Below.refl _ _ | with_reducible assumption | with_reducible refine up_alloc ?_ _ | with_reducible refine up_drew ?_ | with_reducible refine up_drewN ?_ _ | (with_reducible refine up_set ?_ ?hset _; case hset => first | (simp; done) | (simp; omega) | omega) | with_reducible refine up_trans ?_ (by with_reducible assumption)))
        have k0 : W.cell? ⟨w.heap.size, 0, none⟩ = some (.slice A1 d.n c1) := by subst hW; simp [go_sem]
        have k1 : W.cell? ⟨w.heap.size, 1, none⟩ = some (.slice A2 d.m c2) := by subst hW; simp [go_sem]
        have k2 : W.cell? ⟨w.heap.size, 2, none⟩ = some (.int .i64 d.c) := by subst hW; simp [go_sem]
        have k3 : W.cell? ⟨w.heap.size, 3, none⟩ = some (.slice A3 d.l c3) := by subst hW; simp [go_sem]
        clear hW
        refine (HC1.out _ hbW).mono ?_
        rintro e w1 ⟨rfl, hb1⟩
        have q0 := up_keep hb1 k0; have q1 := up_keep hb1 k1; have q2 := up_keep hb1 k2; have q3 := up_keep hb1 k3
        have hw1 := up_trans hbW hb1
        go_wp2_with fail
        refine (HC2.out _ hw1).mono ?_
        rintro e w2 ⟨rfl, hb2⟩
        have r0 := up_keep hb2 q0; have r1 := up_keep hb2 q1; have r2 := up_keep hb2 q2; have r3 := up_keep hb2 q3
        have hw2 := up_trans hw1 hb2
        go_wp2_with fail
        go_ret
        exact Ans.bool (by rw [HE.out]) hw2
set_option maxRecDepth 100000 in
set_option maxHeartbeats 2000000 in
theorem asGood_g (v : Value) (d : TrD) (w : World) (h : Trn w v d) (hn : d.n ≤ 1048576) (hm : d.m ≤ 1048576) (hl : d.l ≤ 1048576) :
    Calls Try.prog 115 #[v] w (Ans w (.bool (trB d))) := by
  obtain ⟨f, t, p, rfl, hf, ht, hp⟩ := h
  have HF := Lib.hid hf
  have HT := Lib.hid ht
  have HP := Lib.hid hp
  obtain ⟨A1, c1, rfl, b1⟩ := hf.shape
  obtain ⟨A2, c2, rfl, b2⟩ := ht.shape
  obtain ⟨A3, c3, rfl, b3⟩ := hp.shape
  clear hf ht hp
  have HC1 := Lib.hid (fun W (hW : Below w.heap.size w W) => chPair_g _ _ d.n d.m d.X d.Y d.U d.V W (HF.out.up hW) (HT.out.up hW) hn hm)
  have HM := Lib.hid (fun W (hW : Below w.heap.size w W) => maPlaces_g _ d.n d.l d.P W (HP.out.up hW) hl hn)
  cases e1 : cpB d.n d.X d.Y d.m d.U d.V with
  | false =>
    rw [e1] at HC1
    have HE := Lib.hid (show trB d = false by simp [trB, e1])
    go_enter Try.func115, Try.ntmps115
    go_wp2_with fail
    generalize hW : World.alloc _ _ = W at *
    have hbW : Below w.heap.size w W := by subst hW; (repeat (first | with_reducible exact Below.refl _ _ | with_reducible assumption | with_reducible refine up_alloc ?_ _ | with_reducible refine up_drew ?_ | with_reducible refine up_drewN ?_ _ | (with_reducible refine up_set ?_ ?hset _; case hset => first | (simp; done) | (simp; omega) | omega) | with_reducible refine up_trans ?_ (by with_reducible assumption)))
    have k0 : W.cell? ⟨w.heap.size, 0, none⟩ = some (.slice A1 d.n c1) := by subst hW; simp [go_sem]
    have k1 : W.cell? ⟨w.heap.size, 1, none⟩ = some (.slice A2 d.m c2) := by subst hW; simp [go_sem]
    have k2 : W.cell? ⟨w.heap.size, 2, none⟩ = some (.int .i64 d.c) := by subst hW; simp [go_sem]
    have k3 : W.cell? ⟨w.heap.size, 3, none⟩ = some (.slice A3 d.l c3) := by subst hW; simp [go_sem]
    clear hW
    refine (HC1.out _ hbW).mono ?_
    rintro e w1 ⟨rfl, hb1⟩
    have q0 := up_keep hb1 k0; have q1 := up_keep hb1 k1; have q2 := up_keep hb1 k2; have q3 := up_keep hb1 k3
    have hw1 := up_trans hbW hb1
    go_wp2_with fail
    go_ret
    exact Ans.bool (by rw [HE.out]) hw1
  | true =>
    rw [e1] at HC1
    cases e4 : inB d.c 1 64 with
    | false =>
      have HE := Lib.hid (show trB d = false by simp [trB, e4])
      clear e1
      go_enter Try.func115, Try.ntmps115
      go_wp2_with fail
      generalize hW : World.alloc _ _ = W at *
      have hbW : Below w.heap.size w W := by subst hW; (repeat (first | with_reducible exact Below.refl _ _ | with_reducible assumption | with_reducible refine up_alloc ?_ _ | with_reducible refine up_drew ?_ | with_reducible refine up_drewN ?_ _ | (with_reducible refine up_set ?_ ?hset _; case hset => first | (simp; done) | (simp; omega) | omega) | with_reducible refine up_trans ?_ (by with_reducible assumption)))
      have k0 : W.cell? ⟨w.heap.size, 0, none⟩ = some (.slice A1 d.n c1) := by subst hW; simp [go_sem]
      have k1 : W.cell? ⟨w.heap.size, 1, none⟩ = some (.slice A2 d.m c2) := by subst hW; simp [go_sem]
      have k2 : W.cell? ⟨w.heap.size, 2, none⟩ = some (.int .i64 d.c) := by subst hW; simp [go_sem]
      have k3 : W.cell? ⟨w.heap.size, 3, none⟩ = some (.slice A3 d.l c3) := by subst hW; simp [go_sem]
      clear hW
      refine (HC1.out _ hbW).mono ?_
      rintro e w1 ⟨rfl, hb1⟩
      have q0 := up_keep hb1 k0; have q1 := up_keep hb1 k1; have q2 := up_keep hb1 k2; have q3 := up_keep hb1 k3
      have hw1 := up_trans hbW hb1
      go_wp2_with (go_at_call 160; refine (l1In_any _ _ _ _).mono ?_; rintro e w1 ⟨rfl, rfl⟩)
      go_ret
      exact Ans.bool (by rw [HE.out]) hw1
    | true =>
      have HE := Lib.hid (show trB d = mtB d.n d.l d.P by simp [trB, e1, e4])
      clear e1
      go_enter Try.func115, Try.ntmps115
      go_wp2_with fail
      generalize hW : World.alloc _ _ = W at *
      have hbW : Below w.heap.size w W := by subst hW; (repeat (first | with_reducible exact Below.refl _ _ | with_reducible assumption | with_reducible refine up_alloc ?_ _ | with_reducible refine up_drew ?_ | with_reducible refine up_drewN ?_ _ | (with_reducible refine up_set ?_ ?hset _; case hset => first | (simp; done) | (simp; omega) | omega) | with_reducible refine up_trans ?_ (by with_reducible assumption)))
      have k0 : W.cell? ⟨w.heap.size, 0, none⟩ = some (.slice A1 d.n c1) := by subst hW; simp [go_sem]
      have k1 : W.cell? ⟨w.heap.size, 1, none⟩ = some (.slice A2 d.m c2) := by subst hW; simp [go_sem]
      have k2 : W.cell? ⟨w.heap.size, 2, none⟩ = some (.int .i64 d.c) := by subst hW; simp [go_sem]
      have k3 : W.cell? ⟨w.heap.size, 3, none⟩ = some (.slice A3 d.l c3) := by subst hW; simp [go_sem]
      clear hW
      refine (HC1.out _ hbW).mono ?_
      rintro e w1 ⟨rfl, hb1⟩
      have q0 := up_keep hb1 k0; have q1 := up_keep hb1 k1; have q2 := up_keep hb1 k2; have q3 := up_keep hb1 k3
      have hw1 := up_trans hbW hb1
      go_wp2_with (go_at_call 160; refine (l1In_any _ _ _ _).mono ?_; rintro e w1 ⟨rfl, rfl⟩)
      refine (HM.out _ hw1).mono ?_
      rintro e w3 ⟨rfl, hb3⟩
      have hw3 := up_trans hw1 hb3
      go_wp2_with fail
      go_ret
      exact Ans.bool (by rw [HE.out]) hw3
end Go.Proofs.Ytkmnkodgmngaeaa
