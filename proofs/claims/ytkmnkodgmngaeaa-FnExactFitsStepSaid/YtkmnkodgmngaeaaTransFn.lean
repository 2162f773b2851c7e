/-
  SquareSum, FarthestMove, TransitionMoves, WidestStep, FitsStep on both sides.
-/
import Derived.Test.YtkmnkodgmngaeaaRows
import Derived.Test.YtkmnkodgmngaeaaBase
import Derived.Test.YtkmnkodgmngaeaaSpot
import Derived.Test.YtkmnkodgmngaeaaSlice
import Derived.Test.YtkmnkodgmngaeaaChart
import Derived.Test.YtkmnkodgmngaeaaLawS
import Derived.Test.YtkmnkodgmngaeaaMark
import Derived.Test.YtkmnkodgmngaeaaOpen
import Derived.Test.YtkmnkodgmngaeaaTrod
import Derived.Test.YtkmnkodgmngaeaaInts
import Derived.Test.YtkmnkodgmngaeaaIntsL
import Derived.Test.YtkmnkodgmngaeaaTurned
import Derived.Test.YtkmnkodgmngaeaaTrans
import Derived.Test.YtkmnkodgmngaeaaAppend
import Derived.Test.YtkmnkodgmngaeaaAppendE
import Derived.Test.YtkmnkodgmngaeaaForm
import Derived.Test.YtkmnkodgmngaeaaMatch
import Derived.Test.YtkmnkodgmngaeaaChanged
import Derived.Test.YtkmnkodgmngaeaaIsTrans
import Derived.Test.YtkmnkodgmngaeaaMove
import Derived.Test.YtkmnkodgmngaeaaGcd
import Derived.Test.YtkmnkodgmngaeaaMoves
import Derived.Test.YtkmnkodgmngaeaaAppendM
import Derived.Test.YtkmnkodgmngaeaaCopyI
import Derived.Test.YtkmnkodgmngaeaaMovesOf
import Derived.Deep.RegionHeld3
import Derived.Deep.RegionWith

namespace Go.Proofs.Ytkmnkodgmngaeaa
open Go.RowKit Go.ChangeShapes Go.WideShapes Go.Sort

def ssV (d : TrD) : Value := .tuple #[.int .i64 (if trB d then sumM d d.l else 0), .bool (trB d)]
def fmV (d : TrD) : Value := .tuple #[.int .i64 (if trB d then (farM d d.l : Nat) else (0 : Int)), .bool (trB d)]
def wsV (d : TrD) : Value := .tuple #[.int .i64 (if trB d then lowA (sqM d (farM d d.l)) (d.c * d.c) else 0), .int .i64 (if trB d then lowB (sqM d (farM d d.l)) (d.c * d.c) else 0), .bool (trB d)]
/-- A move's step is at most so great. -/
def stB (a : Nat → Int) (s : Int) : Bool := decide (sq (a 0) (a 1) (a 2) (a 3) ≤ s * s * a 4 * a 4)
structure MvOk (a : Nat → Int) : Prop where
  s1 : spotB (a 0) (a 1) = true
  s2 : spotB (a 2) (a 3) = true
  c1 : 1 ≤ a 4
  c64 : a 4 ≤ 64
theorem MvOk.of {d : TrD} (h : TrOk d) {i : Nat} (hi : i < d.l) : MvOk (mvM d i) :=
  ⟨h.sx i (by have := h.lp; omega), h.su _ (by have := h.pp i hi; omega), h.c1, h.c64⟩
def ftOk (d : TrD) (s : Int) : Bool := trB d && inB s 1 24
def ftV (d : TrD) (s : Int) : Value := .tuple #[.bool (ftOk d s && stB (mvM d (farM d d.l)) s), .bool (ftOk d s)]
theorem mul4_bd {s c : Int} (h0 : 1 ≤ s) (h1 : s ≤ 24) (h2 : 1 ≤ c) (h3 : c ≤ 64) : (0 ≤ s * s ∧ s * s ≤ 576) ∧ (0 ≤ s * s * c ∧ s * s * c ≤ 36864) ∧ 0 ≤ s * s * c * c ∧ s * s * c * c ≤ 2359296 := by
  have a := mul_bd (a := s) (b := s) (A := 24) (B := 24) (by omega) (by omega) (by omega) (by omega)
  have a0 := sq_nonneg s
  have b := mul_bd (a := s * s) (b := c) (A := 576) (B := 64) (by omega) (by omega) (by omega) (by omega)
  have b0 := Int.mul_nonneg a0 (show 0 ≤ c by omega)
  have c' := mul_bd (a := s * s * c) (b := c) (A := 36864) (B := 64) (by omega) (by omega) (by omega) (by omega)
  have c0 := Int.mul_nonneg b0 (show 0 ≤ c by omega)
  omega
theorem fits_all {d : TrD} (h : TrOk d) (s : Int) : allB (fun i => stB (mvM d i) s) d.l = stB (mvM d (farM d d.l)) s := by
  have hl : 0 < d.l := by have := h.lp; have := h.n1; omega
  have hf := farM_lt d d.l hl
  have e : ∀ i, stB (mvM d i) s = decide (sqM d i ≤ s * s * d.c * d.c) := fun i => rfl
  rw [Bool.eq_iff_iff, allB_iff]
  constructor
  · intro hh; exact hh _ hf
  · intro hh i hi
    have hm := farM_max d d.l i hi
    simp only [e, decide_eq_true_eq] at hh ⊢
    omega
set_option maxRecDepth 100000 in
set_option maxHeartbeats 1000000 in
theorem withinStep_mm (a : Nat → Int) (s : Int) (ha : MvOk a) (h0 : 1 ≤ s) (h1 : s ≤ 24) (w : World) : Calls Try.prog 209 #[mvV a, .int .i64 s] w (Ans w (.bool (stB a s))) := by
  have HC := Lib.hid (squareOf_any (a 0) (a 1) (a 2) (a 3) ha.s1 ha.s2)
  have HE := Lib.hid (show stB a s = decide (sq (a 0) (a 1) (a 2) (a 3) ≤ s * s * a 4 * a 4) from rfl)
  have hq := sq_bd ha.s1 ha.s2
  obtain ⟨m1, m2, m3⟩ := mul4_bd h0 h1 ha.c1 ha.c64
  clear ha
  go_enter Try.func209, Try.ntmps209
  go_wp2_with fail
  generalize hW : World.alloc w _ = W at *
  have hbW : Below w.heap.size w W := by subst hW; (repeat (first | with_reducible exact Below.refl _ _ | with_reducible assumption | with_reducible refine up_alloc ?_ _ | with_reducible refine up_drew ?_ | with_reducible refine up_drewN ?_ _ | (with_reducible refine up_set ?_ ?hset _; case hset => first | (simp; done) | (simp; omega) | omega) | with_reducible refine up_trans ?_ (by with_reducible assumption)))
  have k0 : W.cell? ⟨w.heap.size, 0, none⟩ = some (.int .i64 (a 0)) := by subst hW; simp [go_sem]
  have k1 : W.cell? ⟨w.heap.size, 1, none⟩ = some (.int .i64 (a 1)) := by subst hW; simp [go_sem]
  have k2 : W.cell? ⟨w.heap.size, 2, none⟩ = some (.int .i64 (a 2)) := by subst hW; simp [go_sem]
  have k3 : W.cell? ⟨w.heap.size, 3, none⟩ = some (.int .i64 (a 3)) := by subst hW; simp [go_sem]
  have k4 : W.cell? ⟨w.heap.size, 4, none⟩ = some (.int .i64 (a 4)) := by subst hW; simp [go_sem]
  clear hW
  replace k0 := cell_regrown k0
  replace k1 := cell_regrown k1
  replace k2 := cell_regrown k2
  replace k3 := cell_regrown k3
  replace k4 := cell_regrown k4
  have z1 : IntKind.i64.wrap (s * s) = s * s := IntWalk.i64_in _ (by omega)
  have z2 : IntKind.i64.wrap (s * s * a 4) = s * s * a 4 := IntWalk.i64_in _ (by omega)
  have z3 : IntKind.i64.wrap (s * s * a 4 * a 4) = s * s * a 4 * a 4 := IntWalk.i64_in _ (by omega)
  refine wp_region_up (by kernel_rfl) (by kernel_rfl) ?_
  repeat (go_big_quiet_step (exact up_of (fun W hW => HC.out W) _ _))
  refine wpQuiet_nil ?_
  intro w1 hb0
  obtain ⟨hc0, hf0⟩ := bcell hb0
  clear z1 z2 z3
  go_wp2_with fail
  go_ret
  exact Ans.bool (by rw [HE.out]) (up_trans hbW hb0)
set_option maxRecDepth 100000 in
set_option maxHeartbeats 1000000 in
theorem mvWithin_mm (a : Nat → Int) (s : Int) (ha : MvOk a) (h0 : 1 ≤ s) (h1 : s ≤ 24) (w : World) : Calls Try.prog 131 #[mvV a, .int .i64 s] w (Ans w (.bool (stB a s))) := by
  have HC := Lib.hid (stSquare_any (a 0) (a 1) (a 2) (a 3) ha.s1 ha.s2)
  have HE := Lib.hid (show stB a s = decide (sq (a 0) (a 1) (a 2) (a 3) ≤ s * s * a 4 * a 4) from rfl)
  have hq := sq_bd ha.s1 ha.s2
  obtain ⟨m1, m2, m3⟩ := mul4_bd h0 h1 ha.c1 ha.c64
  clear ha
  go_enter Try.func131, Try.ntmps131
  go_wp2_with fail
  generalize hW : World.alloc w _ = W at *
  have hbW : Below w.heap.size w W := by subst hW; (repeat (first | with_reducible exact Below.refl _ _ | with_reducible assumption | with_reducible refine up_alloc ?_ _ | with_reducible refine up_drew ?_ | with_reducible refine up_drewN ?_ _ | (with_reducible refine up_set ?_ ?hset _; case hset => first | (simp; done) | (simp; omega) | omega) | with_reducible refine up_trans ?_ (by with_reducible assumption)))
  have k0 : W.cell? ⟨w.heap.size, 0, none⟩ = some (.int .i64 (a 0)) := by subst hW; simp [go_sem]
  have k1 : W.cell? ⟨w.heap.size, 1, none⟩ = some (.int .i64 (a 1)) := by subst hW; simp [go_sem]
  have k2 : W.cell? ⟨w.heap.size, 2, none⟩ = some (.int .i64 (a 2)) := by subst hW; simp [go_sem]
  have k3 : W.cell? ⟨w.heap.size, 3, none⟩ = some (.int .i64 (a 3)) := by subst hW; simp [go_sem]
  have k4 : W.cell? ⟨w.heap.size, 4, none⟩ = some (.int .i64 (a 4)) := by subst hW; simp [go_sem]
  clear hW
  replace k0 := cell_regrown k0
  replace k1 := cell_regrown k1
  replace k2 := cell_regrown k2
  replace k3 := cell_regrown k3
  replace k4 := cell_regrown k4
  have z1 : IntKind.i64.wrap (s * s) = s * s := IntWalk.i64_in _ (by omega)
  have z2 : IntKind.i64.wrap (s * s * a 4) = s * s * a 4 := IntWalk.i64_in _ (by omega)
  have z3 : IntKind.i64.wrap (s * s * a 4 * a 4) = s * s * a 4 * a 4 := IntWalk.i64_in _ (by omega)
  refine wp_region_up (by kernel_rfl) (by kernel_rfl) ?_
  repeat (go_big_quiet_step (exact up_of (fun W hW => HC.out W) _ _))
  refine wpQuiet_nil ?_
  intro w1 hb0
  obtain ⟨hc0, hf0⟩ := bcell hb0
  clear z1 z2 z3
  go_wp2_with fail
  go_ret
  exact Ans.bool (by rw [HE.out]) (up_trans hbW hb0)
set_option maxRecDepth 100000 in
set_option maxHeartbeats 2000000 in
theorem fitsStep_g (v : Value) (d : TrD) (s : Int) (w : World) (h : Trn w v d) (hd : TrOk d) (h0 : 1 ≤ s) (h1 : s ≤ 24) : Calls Try.prog 133 #[v, .int .i64 s] w (Ans w (.bool (stB (mvM d (farM d d.l)) s))) := by
  have HE := Lib.hid (fits_all hd s)
  obtain ⟨f, t, p, rfl, hf, ht, hp⟩ := h
  have HF := Lib.hid hf
  have HT := Lib.hid ht
  have HP := Lib.hid hp
  obtain ⟨A1, c1, rfl, b1⟩ := hf.shape
  obtain ⟨A2, c2, rfl, b2⟩ := ht.shape
  obtain ⟨A3, c3, rfl, b3⟩ := hp.shape
  have HFr := Lib.hid (show 0 < d.n → ∃ b o, A1 = some ⟨b, o, none⟩ ∧ Row2 w b o d.n d.X d.Y by
    obtain ⟨A, c, e, _, hr⟩ := hf
    cases e; exact hr)
  have HTr := Lib.hid (show 0 < d.m → ∃ b o, A2 = some ⟨b, o, none⟩ ∧ Row2 w b o d.m d.U d.V by
    obtain ⟨A, c, e, _, hr⟩ := ht
    cases e; exact hr)
  have HPr := Lib.hid (show 0 < d.l → ∃ b o, A3 = some ⟨b, o, none⟩ ∧ Row1 w b o d.l d.P by
    obtain ⟨A, c, e, _, hr⟩ := hp
    cases e; exact hr)
  clear hf ht hp
  have HK := Lib.hid hd
  have l1 := hd.lp; have l2 := hd.mp; have l3 := hd.n12; have l4 := hd.n1; have l5 := hd.c1; have l6 := hd.c64
  clear hd

  have HA := Lib.hid (fun W (hW : Below w.heap.size w W) => movesOf_g _ d W ⟨_, _, _, rfl, HF.out.up hW, HT.out.up hW, HP.out.up hW⟩ HK.out)
  go_enter Try.func133, Try.ntmps133
  go_wp2_with fail
  generalize hW : World.alloc w _ = W at *
  have hbW : Below w.heap.size w W := by subst hW; (repeat (first | with_reducible exact Below.refl _ _ | with_reducible assumption | with_reducible refine up_alloc ?_ _ | with_reducible refine up_drew ?_ | with_reducible refine up_drewN ?_ _ | (with_reducible refine up_set ?_ ?hset _; case hset => first | (simp; done) | (simp; omega) | omega) | with_reducible refine up_trans ?_ (by with_reducible assumption)))
  have k0 : W.cell? ⟨w.heap.size, 0, none⟩ = some (.slice A1 d.n c1) := by subst hW; simp [go_sem]
  have k1 : W.cell? ⟨w.heap.size, 1, none⟩ = some (.slice A2 d.m c2) := by subst hW; simp [go_sem]
  have k2 : W.cell? ⟨w.heap.size, 2, none⟩ = some (.int .i64 d.c) := by subst hW; simp [go_sem]
  have k3 : W.cell? ⟨w.heap.size, 3, none⟩ = some (.slice A3 d.l c3) := by subst hW; simp [go_sem]
  have HSZ := Lib.hid (show W.heap.size = w.heap.size + 1 by subst hW; simp)
  clear hW

  refine (HA.out _ hbW).mono ?_
  rintro e W1 ⟨ms, rfl, hms, hb1⟩
  obtain ⟨A, c, rfl, hnc, hrow⟩ := hms
  have hbW1 := up_trans hbW hb1
  go_wp2_with fail
  go_loopw [10] (fun i wr => ∃ k : Nat, k ≤ d.l ∧ i = .int .i64 k ∧ Below W1.heap.size W1 wr ∧ allB (fun i => stB (mvM d i) s) k = true) (fun i _ => d.l - (intOf i).toNat)
  case atStart => exact ⟨0, by omega, rfl, Below.refl _ _, rfl⟩
  case round =>
    obtain ⟨k, hk, rfl, hb, ha⟩ := hrel
    have HAl := Lib.hid ha
    clear ha
    by_cases hlt : k < d.l
    · obtain ⟨b, o, rfl, _, _, hr⟩ := hrow (by omega)
      obtain ⟨x0, x1, x2, x3, x4⟩ := (hr k hlt).up hb
      have HC := Lib.hid (fun W => withinStep_mm (mvM d k) s (MvOk.of HK.out hlt) h0 h1 W)
      clear hr hrow
      cases hq : stB (mvM d k) s with
      | true =>
        rw [hq] at HC
        have HQ := Lib.hid hq
        clear hq
        go_wp2_with (go_at_call 209; refine (HC.out _).mono ?_; rintro e w3 ⟨rfl, hb3⟩)
        go_roundw
        case rel => exact ⟨k + 1, by omega, by go_num, by (repeat (first | with_reducible exact Below.refl _ _ | with_reducible assumption | with_reducible refine up_alloc ?_ _ | with_reducible refine up_drew ?_ | with_reducible refine up_drewN ?_ _ | (with_reducible refine up_set ?_ ?hset _; case hset => first | (simp; done) | (simp; omega) | omega) | with_reducible refine up_trans ?_ (by with_reducible assumption))), allB_succ HAl.out HQ.out⟩
        case measure => simp [intOf]; omega
      | false =>
        rw [hq] at HC
        have HQ := Lib.hid hq
        clear hq
        go_wp2_with (go_at_call 209; refine (HC.out _).mono ?_; rintro e w3 ⟨rfl, hb3⟩)
        go_ret
        exact Ans.bool (by rw [← HE.out, allB_no hlt HQ.out]) (hbW1.trans ((show Below W1.heap.size W1 _ from (by (repeat (first | with_reducible exact Below.refl _ _ | with_reducible assumption | with_reducible refine up_alloc ?_ _ | with_reducible refine up_drew ?_ | with_reducible refine up_drewN ?_ _ | (with_reducible refine up_set ?_ ?hset _; case hset => first | (simp; done) | (simp; omega) | omega) | with_reducible refine up_trans ?_ (by with_reducible assumption))))).mono hbW1.size))
    · have e : k = d.l := by omega
      subst e
      go_wp2_with fail
      go_ret
      exact Ans.bool (by rw [← HE.out, HAl.out]) (hbW1.trans (hb.mono hbW1.size))
set_option maxRecDepth 100000 in
set_option maxHeartbeats 1000000 in
theorem iSquareSum_g (v : Value) (d : TrD) (w : World) (h : Trn w v d) (hn : d.n ≤ 1048576) (hm : d.m ≤ 1048576) (hl : d.l ≤ 1048576) : Calls Try.prog 25 #[v] w (Ans w (ssV d)) := by
  obtain ⟨f, t, p, rfl, hf, ht, hp⟩ := h
  have HF := Lib.hid hf
  have HT := Lib.hid ht
  have HP := Lib.hid hp
  obtain ⟨A1, c1, rfl, b1⟩ := hf.shape
  obtain ⟨A2, c2, rfl, b2⟩ := ht.shape
  obtain ⟨A3, c3, rfl, b3⟩ := hp.shape
  clear hf ht hp
  have HTr := Lib.hid (fun W (hW : Below w.heap.size w W) => (show Trn W (.agg #[.slice A1 d.n c1, .slice A2 d.m c2, .int .i64 d.c, .slice A3 d.l c3]) d from ⟨_, _, _, rfl, HF.out.up hW, HT.out.up hW, HP.out.up hW⟩))
  have HG := Lib.hid (fun W hW => isTransition_g _ d W (HTr.out W hW) hn hm hl)
  cases e1 : trB d with
  | false =>
    rw [e1] at HG
    rw [show ssV d = .tuple #[.int .i64 0, .bool false] by simp [ssV, e1]]
    clear e1
    go_enter Try.func25, Try.ntmps25
    go_wp2_with fail
    refine (HG.out _ (by (repeat (first | with_reducible exact Below.refl _ _ | with_reducible assumption | with_reducible refine up_alloc ?_ _ | with_reducible refine up_drew ?_ | with_reducible refine up_drewN ?_ _ | (with_reducible refine up_set ?_ ?hset _; case hset => first | (simp; done) | (simp; omega) | omega) | with_reducible refine up_trans ?_ (by with_reducible assumption))))).mono ?_
    rintro e w1 ⟨rfl, hb1⟩
    go_wp2_with fail
    go_ret2
    exact ⟨rfl, by (repeat (first | with_reducible exact Below.refl _ _ | with_reducible assumption | with_reducible refine up_alloc ?_ _ | with_reducible refine up_drew ?_ | with_reducible refine up_drewN ?_ _ | (with_reducible refine up_set ?_ ?hset _; case hset => first | (simp; done) | (simp; omega) | omega) | with_reducible refine up_trans ?_ (by with_reducible assumption)))⟩
  | true =>
    rw [e1] at HG
    have HK := Lib.hid (TrOk.of e1)
    rw [show ssV d = .tuple #[.int .i64 (sumM d d.l), .bool true] by simp [ssV, e1]]
    clear e1
    go_enter Try.func25, Try.ntmps25
    go_wp2_with fail
    generalize hW : World.alloc _ _ = W at *
    have hbW : Below w.heap.size w W := by subst hW; (repeat (first | with_reducible exact Below.refl _ _ | with_reducible assumption | with_reducible refine up_alloc ?_ _ | with_reducible refine up_drew ?_ | with_reducible refine up_drewN ?_ _ | (with_reducible refine up_set ?_ ?hset _; case hset => first | (simp; done) | (simp; omega) | omega) | with_reducible refine up_trans ?_ (by with_reducible assumption)))
    have k0 : W.cell? ⟨w.heap.size, 0, none⟩ = some (.slice A1 d.n c1) := by subst hW; simp [go_sem]
    have k1 : W.cell? ⟨w.heap.size, 1, none⟩ = some (.slice A2 d.m c2) := by subst hW; simp [go_sem]
    have k2 : W.cell? ⟨w.heap.size, 2, none⟩ = some (.int .i64 d.c) := by subst hW; simp [go_sem]
    have k3 : W.cell? ⟨w.heap.size, 3, none⟩ = some (.slice A3 d.l c3) := by subst hW; simp [go_sem]
    have HSZ := Lib.hid (show W.heap.size = w.heap.size + 1 by subst hW; simp)
    clear hW

    refine (HG.out _ hbW).mono ?_
    rintro e w1 ⟨rfl, hb1⟩
    have q0 := up_keep hb1 k0; have q1 := up_keep hb1 k1; have q2 := up_keep hb1 k2; have q3 := up_keep hb1 k3
    have hw1 := up_trans hbW hb1
    go_wp2_with fail
    refine (squareSum_g _ d _ (HTr.out _ hw1) HK.out).mono ?_
    rintro e w2 ⟨rfl, hb2⟩
    go_wp2_with fail
    go_ret2
    exact ⟨rfl, up_trans hw1 hb2⟩
set_option maxRecDepth 100000 in
set_option maxHeartbeats 1000000 in
theorem iFarthestMove_g (v : Value) (d : TrD) (w : World) (h : Trn w v d) (hn : d.n ≤ 1048576) (hm : d.m ≤ 1048576) (hl : d.l ≤ 1048576) : Calls Try.prog 27 #[v] w (Ans w (fmV d)) := by
  obtain ⟨f, t, p, rfl, hf, ht, hp⟩ := h
  have HF := Lib.hid hf
  have HT := Lib.hid ht
  have HP := Lib.hid hp
  obtain ⟨A1, c1, rfl, b1⟩ := hf.shape
  obtain ⟨A2, c2, rfl, b2⟩ := ht.shape
  obtain ⟨A3, c3, rfl, b3⟩ := hp.shape
  clear hf ht hp
  have HTr := Lib.hid (fun W (hW : Below w.heap.size w W) => (show Trn W (.agg #[.slice A1 d.n c1, .slice A2 d.m c2, .int .i64 d.c, .slice A3 d.l c3]) d from ⟨_, _, _, rfl, HF.out.up hW, HT.out.up hW, HP.out.up hW⟩))
  have HG := Lib.hid (fun W hW => isTransition_g _ d W (HTr.out W hW) hn hm hl)
  cases e1 : trB d with
  | false =>
    rw [e1] at HG
    rw [show fmV d = .tuple #[.int .i64 0, .bool false] by simp [fmV, e1]]
    clear e1
    go_enter Try.func27, Try.ntmps27
    go_wp2_with fail
    refine (HG.out _ (by (repeat (first | with_reducible exact Below.refl _ _ | with_reducible assumption | with_reducible refine up_alloc ?_ _ | with_reducible refine up_drew ?_ | with_reducible refine up_drewN ?_ _ | (with_reducible refine up_set ?_ ?hset _; case hset => first | (simp; done) | (simp; omega) | omega) | with_reducible refine up_trans ?_ (by with_reducible assumption))))).mono ?_
    rintro e w1 ⟨rfl, hb1⟩
    go_wp2_with fail
    go_ret2
    exact ⟨rfl, by (repeat (first | with_reducible exact Below.refl _ _ | with_reducible assumption | with_reducible refine up_alloc ?_ _ | with_reducible refine up_drew ?_ | with_reducible refine up_drewN ?_ _ | (with_reducible refine up_set ?_ ?hset _; case hset => first | (simp; done) | (simp; omega) | omega) | with_reducible refine up_trans ?_ (by with_reducible assumption)))⟩
  | true =>
    rw [e1] at HG
    have HK := Lib.hid (TrOk.of e1)
    rw [show fmV d = .tuple #[.int .i64 (farM d d.l : Nat), .bool true] by simp [fmV, e1]]
    clear e1
    go_enter Try.func27, Try.ntmps27
    go_wp2_with fail
    generalize hW : World.alloc _ _ = W at *
    have hbW : Below w.heap.size w W := by subst hW; (repeat (first | with_reducible exact Below.refl _ _ | with_reducible assumption | with_reducible refine up_alloc ?_ _ | with_reducible refine up_drew ?_ | with_reducible refine up_drewN ?_ _ | (with_reducible refine up_set ?_ ?hset _; case hset => first | (simp; done) | (simp; omega) | omega) | with_reducible refine up_trans ?_ (by with_reducible assumption)))
    have k0 : W.cell? ⟨w.heap.size, 0, none⟩ = some (.slice A1 d.n c1) := by subst hW; simp [go_sem]
    have k1 : W.cell? ⟨w.heap.size, 1, none⟩ = some (.slice A2 d.m c2) := by subst hW; simp [go_sem]
    have k2 : W.cell? ⟨w.heap.size, 2, none⟩ = some (.int .i64 d.c) := by subst hW; simp [go_sem]
    have k3 : W.cell? ⟨w.heap.size, 3, none⟩ = some (.slice A3 d.l c3) := by subst hW; simp [go_sem]
    have HSZ := Lib.hid (show W.heap.size = w.heap.size + 1 by subst hW; simp)
    clear hW

    refine (HG.out _ hbW).mono ?_
    rintro e w1 ⟨rfl, hb1⟩
    have q0 := up_keep hb1 k0; have q1 := up_keep hb1 k1; have q2 := up_keep hb1 k2; have q3 := up_keep hb1 k3
    have hw1 := up_trans hbW hb1
    go_wp2_with fail
    refine (farthestMove_g _ d _ (HTr.out _ hw1) HK.out).mono ?_
    rintro e w2 ⟨rfl, hb2⟩
    go_wp2_with fail
    go_ret2
    exact ⟨rfl, up_trans hw1 hb2⟩
set_option maxRecDepth 100000 in
set_option maxHeartbeats 1000000 in
theorem sSquareSum_g (v : Value) (d : TrD) (w : World) (h : Trn w v d) (hn : d.n ≤ 1048576) (hm : d.m ≤ 1048576) (hl : d.l ≤ 1048576) : Calls Try.prog 24 #[v] w (Ans w (ssV d)) := by
  obtain ⟨f, t, p, rfl, hf, ht, hp⟩ := h
  have HF := Lib.hid hf
  have HT := Lib.hid ht
  have HP := Lib.hid hp
  obtain ⟨A1, c1, rfl, b1⟩ := hf.shape
  obtain ⟨A2, c2, rfl, b2⟩ := ht.shape
  obtain ⟨A3, c3, rfl, b3⟩ := hp.shape
  clear hf ht hp
  have HTr := Lib.hid (fun W (hW : Below w.heap.size w W) => (show Trn W (.agg #[.slice A1 d.n c1, .slice A2 d.m c2, .int .i64 d.c, .slice A3 d.l c3]) d from ⟨_, _, _, rfl, HF.out.up hW, HT.out.up hW, HP.out.up hW⟩))
  have HG := Lib.hid (fun W hW => asGood_g _ d W (HTr.out W hW) hn hm hl)
  cases e1 : trB d with
  | false =>
    rw [e1] at HG
    rw [show ssV d = .tuple #[.int .i64 0, .bool false] by simp [ssV, e1]]
    clear e1
    go_enter Try.func24, Try.ntmps24
    go_wp2_with fail
    refine (HG.out _ (by (repeat (first | with_reducible exact Below.refl _ _ | with_reducible assumption | with_reducible refine up_alloc ?_ _ | with_reducible refine up_drew ?_ | with_reducible refine up_drewN ?_ _ | (with_reducible refine up_set ?_ ?hset _; case hset => first | (simp; done) | (simp; omega) | omega) | with_reducible refine up_trans ?_ (by with_reducible assumption))))).mono ?_
    rintro e w1 ⟨rfl, hb1⟩
    go_wp2_with fail
    go_ret2
    exact ⟨rfl, by (repeat (first | with_reducible exact Below.refl _ _ | with_reducible assumption | with_reducible refine up_alloc ?_ _ | with_reducible refine up_drew ?_ | with_reducible refine up_drewN ?_ _ | (with_reducible refine up_set ?_ ?hset _; case hset => first | (simp; done) | (simp; omega) | omega) | with_reducible refine up_trans ?_ (by with_reducible assumption)))⟩
  | true =>
    rw [e1] at HG
    have HK := Lib.hid (TrOk.of e1)
    rw [show ssV d = .tuple #[.int .i64 (sumM d d.l), .bool true] by simp [ssV, e1]]
    clear e1
    go_enter Try.func24, Try.ntmps24
    go_wp2_with fail
    generalize hW : World.alloc _ _ = W at *
    have hbW : Below w.heap.size w W := by subst hW; (repeat (first | with_reducible exact Below.refl _ _ | with_reducible assumption | with_reducible refine up_alloc ?_ _ | with_reducible refine up_drew ?_ | with_reducible refine up_drewN ?_ _ | (with_reducible refine up_set ?_ ?hset _; case hset => first | (simp; done) | (simp; omega) | omega) | with_reducible refine up_trans ?_ (by with_reducible assumption)))
    have k0 : W.cell? ⟨w.heap.size, 0, none⟩ = some (.slice A1 d.n c1) := by subst hW; simp [go_sem]
    have k1 : W.cell? ⟨w.heap.size, 1, none⟩ = some (.slice A2 d.m c2) := by subst hW; simp [go_sem]
    have k2 : W.cell? ⟨w.heap.size, 2, none⟩ = some (.int .i64 d.c) := by subst hW; simp [go_sem]
    have k3 : W.cell? ⟨w.heap.size, 3, none⟩ = some (.slice A3 d.l c3) := by subst hW; simp [go_sem]
    have HSZ := Lib.hid (show W.heap.size = w.heap.size + 1 by subst hW; simp)
    clear hW

    refine (HG.out _ hbW).mono ?_
    rintro e w1 ⟨rfl, hb1⟩
    have q0 := up_keep hb1 k0; have q1 := up_keep hb1 k1; have q2 := up_keep hb1 k2; have q3 := up_keep hb1 k3
    have hw1 := up_trans hbW hb1
    go_wp2_with fail
    refine (asSum_g _ d _ (HTr.out _ hw1) HK.out).mono ?_
    rintro e w2 ⟨rfl, hb2⟩
    go_wp2_with fail
    go_ret2
    exact ⟨rfl, up_trans hw1 hb2⟩
set_option maxRecDepth 100000 in
set_option maxHeartbeats 1000000 in
theorem sFarthestMove_g (v : Value) (d : TrD) (w : World) (h : Trn w v d) (hn : d.n ≤ 1048576) (hm : d.m ≤ 1048576) (hl : d.l ≤ 1048576) : Calls Try.prog 26 #[v] w (Ans w (fmV d)) := by
  obtain ⟨f, t, p, rfl, hf, ht, hp⟩ := h
  have HF := Lib.hid hf
  have HT := Lib.hid ht
  have HP := Lib.hid hp
  obtain ⟨A1, c1, rfl, b1⟩ := hf.shape
  obtain ⟨A2, c2, rfl, b2⟩ := ht.shape
  obtain ⟨A3, c3, rfl, b3⟩ := hp.shape
  clear hf ht hp
  have HTr := Lib.hid (fun W (hW : Below w.heap.size w W) => (show Trn W (.agg #[.slice A1 d.n c1, .slice A2 d.m c2, .int .i64 d.c, .slice A3 d.l c3]) d from ⟨_, _, _, rfl, HF.out.up hW, HT.out.up hW, HP.out.up hW⟩))
  have HG := Lib.hid (fun W hW => asGood_g _ d W (HTr.out W hW) hn hm hl)
  cases e1 : trB d with
  | false =>
    rw [e1] at HG
    rw [show fmV d = .tuple #[.int .i64 0, .bool false] by simp [fmV, e1]]
    clear e1
    go_enter Try.func26, Try.ntmps26
    go_wp2_with fail
    refine (HG.out _ (by (repeat (first | with_reducible exact Below.refl _ _ | with_reducible assumption | with_reducible refine up_alloc ?_ _ | with_reducible refine up_drew ?_ | with_reducible refine up_drewN ?_ _ | (with_reducible refine up_set ?_ ?hset _; case hset => first | (simp; done) | (simp; omega) | omega) | with_reducible refine up_trans ?_ (by with_reducible assumption))))).mono ?_
    rintro e w1 ⟨rfl, hb1⟩
    go_wp2_with fail
    go_ret2
    exact ⟨rfl, by (repeat (first | with_reducible exact Below.refl _ _ | with_reducible assumption | with_reducible refine up_alloc ?_ _ | with_reducible refine up_drew ?_ | with_reducible refine up_drewN ?_ _ | (with_reducible refine up_set ?_ ?hset _; case hset => first | (simp; done) | (simp; omega) | omega) | with_reducible refine up_trans ?_ (by with_reducible assumption)))⟩
  | true =>
    rw [e1] at HG
    have HK := Lib.hid (TrOk.of e1)
    rw [show fmV d = .tuple #[.int .i64 (farM d d.l : Nat), .bool true] by simp [fmV, e1]]
    clear e1
    go_enter Try.func26, Try.ntmps26
    go_wp2_with fail
    generalize hW : World.alloc _ _ = W at *
    have hbW : Below w.heap.size w W := by subst hW; (repeat (first | with_reducible exact Below.refl _ _ | with_reducible assumption | with_reducible refine up_alloc ?_ _ | with_reducible refine up_drew ?_ | with_reducible refine up_drewN ?_ _ | (with_reducible refine up_set ?_ ?hset _; case hset => first | (simp; done) | (simp; omega) | omega) | with_reducible refine up_trans ?_ (by with_reducible assumption)))
    have k0 : W.cell? ⟨w.heap.size, 0, none⟩ = some (.slice A1 d.n c1) := by subst hW; simp [go_sem]
    have k1 : W.cell? ⟨w.heap.size, 1, none⟩ = some (.slice A2 d.m c2) := by subst hW; simp [go_sem]
    have k2 : W.cell? ⟨w.heap.size, 2, none⟩ = some (.int .i64 d.c) := by subst hW; simp [go_sem]
    have k3 : W.cell? ⟨w.heap.size, 3, none⟩ = some (.slice A3 d.l c3) := by subst hW; simp [go_sem]
    have HSZ := Lib.hid (show W.heap.size = w.heap.size + 1 by subst hW; simp)
    clear hW

    refine (HG.out _ hbW).mono ?_
    rintro e w1 ⟨rfl, hb1⟩
    have q0 := up_keep hb1 k0; have q1 := up_keep hb1 k1; have q2 := up_keep hb1 k2; have q3 := up_keep hb1 k3
    have hw1 := up_trans hbW hb1
    go_wp2_with fail
    refine (asFarthest_g _ d _ (HTr.out _ hw1) HK.out).mono ?_
    rintro e w2 ⟨rfl, hb2⟩
    go_wp2_with fail
    go_ret2
    exact ⟨rfl, up_trans hw1 hb2⟩
set_option maxRecDepth 100000 in
set_option maxHeartbeats 1000000 in
theorem iTransitionMoves_g (v : Value) (d : TrD) (w : World) (h : Trn w v d) (hn : d.n ≤ 1048576) (hm : d.m ≤ 1048576) (hl : d.l ≤ 1048576) : Calls Try.prog 18 #[v] w (AnsMB w (sel (trB d) d.l) (mvM d) (trB d)) := by
  obtain ⟨f, t, p, rfl, hf, ht, hp⟩ := h
  have HF := Lib.hid hf
  have HT := Lib.hid ht
  have HP := Lib.hid hp
  obtain ⟨A1, c1, rfl, b1⟩ := hf.shape
  obtain ⟨A2, c2, rfl, b2⟩ := ht.shape
  obtain ⟨A3, c3, rfl, b3⟩ := hp.shape
  clear hf ht hp
  have HTr := Lib.hid (fun W (hW : Below w.heap.size w W) => (show Trn W (.agg #[.slice A1 d.n c1, .slice A2 d.m c2, .int .i64 d.c, .slice A3 d.l c3]) d from ⟨_, _, _, rfl, HF.out.up hW, HT.out.up hW, HP.out.up hW⟩))
  have HG := Lib.hid (fun W hW => isTransition_g _ d W (HTr.out W hW) hn hm hl)
  cases e1 : trB d with
  | false =>
    rw [e1] at HG
    skip
    clear e1
    go_enter Try.func18, Try.ntmps18
    go_wp2_with fail
    refine (HG.out _ (by (repeat (first | with_reducible exact Below.refl _ _ | with_reducible assumption | with_reducible refine up_alloc ?_ _ | with_reducible refine up_drew ?_ | with_reducible refine up_drewN ?_ _ | (with_reducible refine up_set ?_ ?hset _; case hset => first | (simp; done) | (simp; omega) | omega) | with_reducible refine up_trans ?_ (by with_reducible assumption))))).mono ?_
    rintro e w1 ⟨rfl, hb1⟩
    go_wp2_with fail
    go_ret2
    exact AnsMB.nil (by (repeat (first | with_reducible exact Below.refl _ _ | with_reducible assumption | with_reducible refine up_alloc ?_ _ | with_reducible refine up_drew ?_ | with_reducible refine up_drewN ?_ _ | (with_reducible refine up_set ?_ ?hset _; case hset => first | (simp; done) | (simp; omega) | omega) | with_reducible refine up_trans ?_ (by with_reducible assumption))))
  | true =>
    rw [e1] at HG
    have HK := Lib.hid (TrOk.of e1)
    skip
    clear e1
    go_enter Try.func18, Try.ntmps18
    go_wp2_with fail
    generalize hW : World.alloc _ _ = W at *
    have hbW : Below w.heap.size w W := by subst hW; (repeat (first | with_reducible exact Below.refl _ _ | with_reducible assumption | with_reducible refine up_alloc ?_ _ | with_reducible refine up_drew ?_ | with_reducible refine up_drewN ?_ _ | (with_reducible refine up_set ?_ ?hset _; case hset => first | (simp; done) | (simp; omega) | omega) | with_reducible refine up_trans ?_ (by with_reducible assumption)))
    have k0 : W.cell? ⟨w.heap.size, 0, none⟩ = some (.slice A1 d.n c1) := by subst hW; simp [go_sem]
    have k1 : W.cell? ⟨w.heap.size, 1, none⟩ = some (.slice A2 d.m c2) := by subst hW; simp [go_sem]
    have k2 : W.cell? ⟨w.heap.size, 2, none⟩ = some (.int .i64 d.c) := by subst hW; simp [go_sem]
    have k3 : W.cell? ⟨w.heap.size, 3, none⟩ = some (.slice A3 d.l c3) := by subst hW; simp [go_sem]
    have HSZ := Lib.hid (show W.heap.size = w.heap.size + 1 by subst hW; simp)
    clear hW

    refine (HG.out _ hbW).mono ?_
    rintro e w1 ⟨rfl, hb1⟩
    have q0 := up_keep hb1 k0; have q1 := up_keep hb1 k1; have q2 := up_keep hb1 k2; have q3 := up_keep hb1 k3
    have hw1 := up_trans hbW hb1
    go_wp2_with fail
    refine (movesOf_g _ d _ (HTr.out _ hw1) HK.out).mono ?_
    rintro e w2 ⟨u, rfl, hu, hb2⟩
    go_wp2_with fail
    go_ret2
    exact ⟨_, rfl, hu.more hw1.size, up_trans hw1 hb2⟩
set_option maxRecDepth 100000 in
set_option maxHeartbeats 1000000 in
theorem sTransitionMoves_g (v : Value) (d : TrD) (w : World) (h : Trn w v d) (hn : d.n ≤ 1048576) (hm : d.m ≤ 1048576) (hl : d.l ≤ 1048576) : Calls Try.prog 16 #[v] w (AnsMB w (sel (trB d) d.l) (mvM d) (trB d)) := by
  obtain ⟨f, t, p, rfl, hf, ht, hp⟩ := h
  have HF := Lib.hid hf
  have HT := Lib.hid ht
  have HP := Lib.hid hp
  obtain ⟨A1, c1, rfl, b1⟩ := hf.shape
  obtain ⟨A2, c2, rfl, b2⟩ := ht.shape
  obtain ⟨A3, c3, rfl, b3⟩ := hp.shape
  clear hf ht hp
  have HTr := Lib.hid (fun W (hW : Below w.heap.size w W) => (show Trn W (.agg #[.slice A1 d.n c1, .slice A2 d.m c2, .int .i64 d.c, .slice A3 d.l c3]) d from ⟨_, _, _, rfl, HF.out.up hW, HT.out.up hW, HP.out.up hW⟩))
  have HG := Lib.hid (fun W hW => asGood_g _ d W (HTr.out W hW) hn hm hl)
  cases e1 : trB d with
  | false =>
    rw [e1] at HG
    skip
    clear e1
    go_enter Try.func16, Try.ntmps16
    go_wp2_with fail
    refine (HG.out _ (by (repeat (first | with_reducible exact Below.refl _ _ | with_reducible assumption | with_reducible refine up_alloc ?_ _ | with_reducible refine up_drew ?_ | with_reducible refine up_drewN ?_ _ | (with_reducible refine up_set ?_ ?hset _; case hset => first | (simp; done) | (simp; omega) | omega) | with_reducible refine up_trans ?_ (by with_reducible assumption))))).mono ?_
    rintro e w1 ⟨rfl, hb1⟩
    go_wp2_with fail
    go_ret2
    exact AnsMB.nil (by (repeat (first | with_reducible exact Below.refl _ _ | with_reducible assumption | with_reducible refine up_alloc ?_ _ | with_reducible refine up_drew ?_ | with_reducible refine up_drewN ?_ _ | (with_reducible refine up_set ?_ ?hset _; case hset => first | (simp; done) | (simp; omega) | omega) | with_reducible refine up_trans ?_ (by with_reducible assumption))))
  | true =>
    rw [e1] at HG
    have HK := Lib.hid (TrOk.of e1)
    skip
    clear e1
    go_enter Try.func16, Try.ntmps16
    go_wp2_with fail
    generalize hW : World.alloc _ _ = W at *
    have hbW : Below w.heap.size w W := by subst hW; (repeat (first | with_reducible exact Below.refl _ _ | with_reducible assumption | with_reducible refine up_alloc ?_ _ | with_reducible refine up_drew ?_ | with_reducible refine up_drewN ?_ _ | (with_reducible refine up_set ?_ ?hset _; case hset => first | (simp; done) | (simp; omega) | omega) | with_reducible refine up_trans ?_ (by with_reducible assumption)))
    have k0 : W.cell? ⟨w.heap.size, 0, none⟩ = some (.slice A1 d.n c1) := by subst hW; simp [go_sem]
    have k1 : W.cell? ⟨w.heap.size, 1, none⟩ = some (.slice A2 d.m c2) := by subst hW; simp [go_sem]
    have k2 : W.cell? ⟨w.heap.size, 2, none⟩ = some (.int .i64 d.c) := by subst hW; simp [go_sem]
    have k3 : W.cell? ⟨w.heap.size, 3, none⟩ = some (.slice A3 d.l c3) := by subst hW; simp [go_sem]
    have HSZ := Lib.hid (show W.heap.size = w.heap.size + 1 by subst hW; simp)
    clear hW

    refine (HG.out _ hbW).mono ?_
    rintro e w1 ⟨rfl, hb1⟩
    have q0 := up_keep hb1 k0; have q1 := up_keep hb1 k1; have q2 := up_keep hb1 k2; have q3 := up_keep hb1 k3
    have hw1 := up_trans hbW hb1
    go_wp2_with fail
    refine (asMoves_g _ d _ (HTr.out _ hw1) HK.out).mono ?_
    rintro e w2 ⟨u, rfl, hu, hb2⟩
    go_wp2_with fail
    go_ret2
    exact ⟨_, rfl, hu.more hw1.size, up_trans hw1 hb2⟩
set_option maxRecDepth 100000 in
set_option maxHeartbeats 4000000 in
theorem iWidestStep_g (v : Value) (d : TrD) (w : World) (h : Trn w v d) (hn : d.n ≤ 1048576) (hm : d.m ≤ 1048576) (hl : d.l ≤ 1048576) : Calls Try.prog 33 #[v] w (Ans w (wsV d)) := by
  obtain ⟨f, t, p, rfl, hf, ht, hp⟩ := h
  have HF := Lib.hid hf
  have HT := Lib.hid ht
  have HP := Lib.hid hp
  obtain ⟨A1, c1, rfl, b1⟩ := hf.shape
  obtain ⟨A2, c2, rfl, b2⟩ := ht.shape
  obtain ⟨A3, c3, rfl, b3⟩ := hp.shape
  clear hf ht hp
  have HTr := Lib.hid (fun W (hW : Below w.heap.size w W) => (show Trn W (.agg #[.slice A1 d.n c1, .slice A2 d.m c2, .int .i64 d.c, .slice A3 d.l c3]) d from ⟨_, _, _, rfl, HF.out.up hW, HT.out.up hW, HP.out.up hW⟩))
  have HG := Lib.hid (fun W hW => isTransition_g _ d W (HTr.out W hW) hn hm hl)
  cases e1 : trB d with
  | false =>
    rw [e1] at HG
    rw [show wsV d = .tuple #[.int .i64 0, .int .i64 0, .bool false] by simp [wsV, e1]]
    clear e1
    go_enter Try.func33, Try.ntmps33
    go_wp2_with fail
    refine (HG.out _ (by (repeat (first | with_reducible exact Below.refl _ _ | with_reducible assumption | with_reducible refine up_alloc ?_ _ | with_reducible refine up_drew ?_ | with_reducible refine up_drewN ?_ _ | (with_reducible refine up_set ?_ ?hset _; case hset => first | (simp; done) | (simp; omega) | omega) | with_reducible refine up_trans ?_ (by with_reducible assumption))))).mono ?_
    rintro e w1 ⟨rfl, hb1⟩
    go_wp2_with fail
    go_ret3
    exact ⟨rfl, by (repeat (first | with_reducible exact Below.refl _ _ | with_reducible assumption | with_reducible refine up_alloc ?_ _ | with_reducible refine up_drew ?_ | with_reducible refine up_drewN ?_ _ | (with_reducible refine up_set ?_ ?hset _; case hset => first | (simp; done) | (simp; omega) | omega) | with_reducible refine up_trans ?_ (by with_reducible assumption)))⟩
  | true =>
    rw [e1] at HG
    have HK := Lib.hid (TrOk.of e1)
    have HFr := Lib.hid (show 0 < d.n → ∃ b o, A1 = some ⟨b, o, none⟩ ∧ Row2 w b o d.n d.X d.Y by
      obtain ⟨A, c, e, _, hr⟩ := HF.out
      cases e; exact hr)
    have HTt := Lib.hid (show 0 < d.m → ∃ b o, A2 = some ⟨b, o, none⟩ ∧ Row2 w b o d.m d.U d.V by
      obtain ⟨A, c, e, _, hr⟩ := HT.out
      cases e; exact hr)
    have HPr := Lib.hid (show 0 < d.l → ∃ b o, A3 = some ⟨b, o, none⟩ ∧ Row1 w b o d.l d.P by
      obtain ⟨A, c, e, _, hr⟩ := HP.out
      cases e; exact hr)
    have l1 := HK.out.lp; have l2 := HK.out.mp; have l3 := HK.out.n12; have l4 := HK.out.n1; have l5 := HK.out.c1; have l6 := HK.out.c64
    have hgl := farM_lt d d.l (by omega)
    obtain ⟨g, hg⟩ : ∃ g, farM d d.l = g := ⟨_, rfl⟩
    rw [hg] at hgl
    rw [show wsV d = .tuple #[.int .i64 (lowA (sqM d (farM d d.l)) (d.c * d.c)), .int .i64 (lowB (sqM d (farM d d.l)) (d.c * d.c)), .bool true] by simp [wsV, e1]]
    rw [hg]
    obtain ⟨j, hj⟩ : ∃ j : Nat, d.P g = j := ⟨(d.P g).toNat, by have := HK.out.pp g hgl; omega⟩
    have hjm : j < d.m := by have := HK.out.pp g hgl; omega
    have hjn : (d.P g).toNat = j := by omega
    have j1 : (j : Int) < (d.m : Int) := by omega
    have j2 : (g : Int) < (d.n : Int) := by omega
    have j3 : (g : Int) < (d.l : Int) := by omega
    have HC := Lib.hid (squareOf_any (d.X g) (d.Y g) (d.U j) (d.V j) (HK.out.sx g (by omega)) (HK.out.su j hjm))
    have hs := sqM_bd HK.out hgl
    have HSq := Lib.hid (show sqM d g = sq (d.X g) (d.Y g) (d.U j) (d.V j) by unfold sqM; rw [hjn])
    rw [HSq.out] at hs
    have hcc := mul_bd (a := d.c) (b := d.c) (A := 64) (B := 64) (by omega) (by omega) (by omega) (by omega)
    have hc1 : 0 < d.c * d.c := Int.mul_pos (by omega) (by omega)
    have HL := Lib.hid (fun W => lowestTerms_any (sq (d.X g) (d.Y g) (d.U j) (d.V j)) (d.c * d.c) hs.1 (by omega) hc1 (by omega) W)
    rw [HSq.out]
    have HJ := Lib.hid hj
    have HGG := Lib.hid hg
    clear hj hjn hg
    clear e1
    go_enter Try.func33, Try.ntmps33
    go_wp2_with fail
    generalize hW : World.alloc _ _ = W at *
    have hbW : Below w.heap.size w W := by subst hW; (repeat (first | with_reducible exact Below.refl _ _ | with_reducible assumption | with_reducible refine up_alloc ?_ _ | with_reducible refine up_drew ?_ | with_reducible refine up_drewN ?_ _ | (with_reducible refine up_set ?_ ?hset _; case hset => first | (simp; done) | (simp; omega) | omega) | with_reducible refine up_trans ?_ (by with_reducible assumption)))
    have k0 : W.cell? ⟨w.heap.size, 0, none⟩ = some (.slice A1 d.n c1) := by subst hW; simp [go_sem]
    have k1 : W.cell? ⟨w.heap.size, 1, none⟩ = some (.slice A2 d.m c2) := by subst hW; simp [go_sem]
    have k2 : W.cell? ⟨w.heap.size, 2, none⟩ = some (.int .i64 d.c) := by subst hW; simp [go_sem]
    have k3 : W.cell? ⟨w.heap.size, 3, none⟩ = some (.slice A3 d.l c3) := by subst hW; simp [go_sem]
    have HSZ := Lib.hid (show W.heap.size = w.heap.size + 1 by subst hW; simp)
    clear hW

    refine (HG.out _ hbW).mono ?_
    rintro e w1 ⟨rfl, hb1⟩
    have q0 := up_keep hb1 k0; have q1 := up_keep hb1 k1; have q2 := up_keep hb1 k2; have q3 := up_keep hb1 k3
    have hw1 := up_trans hbW hb1
    go_wp2_with fail
    have HFC := farthestMove_g _ d _ (HTr.out _ hw1) HK.out
    rw [HGG.out] at HFC
    refine HFC.mono ?_
    clear HFC
    rintro e w2 ⟨rfl, hb2⟩
    have hw2 := up_trans hw1 hb2
    obtain ⟨b4, o4, rfl, hr4⟩ := HFr.out (by omega)
    obtain ⟨b5, o5, rfl, hr5⟩ := HTt.out (by omega)
    obtain ⟨b6, o6, rfl, hr6⟩ := HPr.out (by omega)
    have x0 := cell_regrown (up_keep hw2 (hr4 g (by omega)).1)
    have x1 := cell_regrown (up_keep hw2 (hr4 g (by omega)).2)
    have x2 := cell_regrown (up_keep hw2 (hr5 j hjm).1)
    have x3 := cell_regrown (up_keep hw2 (hr5 j hjm).2)
    have x4 := up_keep hw2 (hr6 g hgl)
    rw [HJ.out] at x4
    replace x4 := cell_regrown x4
    replace q0 := cell_regrown (up_keep hb2 q0)
    replace q1 := cell_regrown (up_keep hb2 q1)
    replace q2 := cell_regrown (up_keep hb2 q2)
    replace q3 := cell_regrown (up_keep hb2 q3)
    clear hr4 hr5 hr6
    go_wp2_with fail
    have hz0 : IntKind.i64.wrap (d.c * d.c) = d.c * d.c := IntWalk.i64_in _ (by omega)
    refine wp_region_up (by kernel_rfl) (by kernel_rfl) ?_
    repeat (go_big_quiet_step (first | (with_reducible exact up_of (fun W hW => HC.out W) _ _) | (with_reducible exact up_of (fun W hW => HL.out W) _ _)))
    refine wpQuiet_nil ?_
    intro w1 hb0
    obtain ⟨hc0, hf0⟩ := bcell hb0
    clear hz0
    go_wp2_with fail
    go_ret3
    exact ⟨rfl, hw2.trans (hb0.mono hw2.size)⟩
set_option maxRecDepth 100000 in
set_option maxHeartbeats 2000000 in
theorem sStepSquare_mm (a : Nat → Int) (ha : MvOk a) (w : World) :
    Calls Try.prog 136 #[mvV a] w (Ans w (.tuple #[.int .i64 (lowA (sq (a 0) (a 1) (a 2) (a 3)) (a 4 * a 4)), .int .i64 (lowB (sq (a 0) (a 1) (a 2) (a 3)) (a 4 * a 4)), .bool true])) := by
  have hmb : moveB (a 0) (a 1) (a 2) (a 3) (a 4) = true := moveB_iff.2 ⟨⟨ha.s1, ha.s2⟩, ha.c1, ha.c64⟩
  have HG := Lib.hid (fun W => mvGood_any (a 0) (a 1) (a 2) (a 3) (a 4) W)
  rw [hmb] at HG
  have c1 := ha.c1; have c64 := ha.c64
  have HC := Lib.hid (stSquare_any (a 0) (a 1) (a 2) (a 3) ha.s1 ha.s2)
  have hs := sq_bd ha.s1 ha.s2
  have hcc := mul_bd (a := a 4) (b := a 4) (A := 64) (B := 64) (by omega) (by omega) (by omega) (by omega)
  have hc1 : 0 < a 4 * a 4 := Int.mul_pos (by omega) (by omega)
  have HL := Lib.hid (fun W => mvPart_any (sq (a 0) (a 1) (a 2) (a 3)) (a 4 * a 4) hs.1 (by omega) hc1 (by omega) W)
  clear ha hmb
  go_enter Try.func136, Try.ntmps136
  go_wp2_with fail
  generalize hW : World.alloc w _ = W at *
  have hbW : Below w.heap.size w W := by subst hW; (repeat (first | with_reducible exact Below.refl _ _ | with_reducible assumption | with_reducible refine up_alloc ?_ _ | with_reducible refine up_drew ?_ | with_reducible refine up_drewN ?_ _ | (with_reducible refine up_set ?_ ?hset _; case hset => first | (simp; done) | (simp; omega) | omega) | with_reducible refine up_trans ?_ (by with_reducible assumption)))
  have k0 : W.cell? ⟨w.heap.size, 0, none⟩ = some (.int .i64 (a 0)) := by subst hW; simp [go_sem]
  have k1 : W.cell? ⟨w.heap.size, 1, none⟩ = some (.int .i64 (a 1)) := by subst hW; simp [go_sem]
  have k2 : W.cell? ⟨w.heap.size, 2, none⟩ = some (.int .i64 (a 2)) := by subst hW; simp [go_sem]
  have k3 : W.cell? ⟨w.heap.size, 3, none⟩ = some (.int .i64 (a 3)) := by subst hW; simp [go_sem]
  have k4 : W.cell? ⟨w.heap.size, 4, none⟩ = some (.int .i64 (a 4)) := by subst hW; simp [go_sem]
  clear hW
  refine (HG.out _).mono ?_
  rintro e w1 ⟨rfl, hb1⟩
  have hw1 := up_trans hbW hb1
  replace k0 := cell_regrown (up_keep hb1 k0)
  replace k1 := cell_regrown (up_keep hb1 k1)
  replace k2 := cell_regrown (up_keep hb1 k2)
  replace k3 := cell_regrown (up_keep hb1 k3)
  replace k4 := cell_regrown (up_keep hb1 k4)
  go_wp2_with fail
  have hz0 : IntKind.i64.wrap (a 4 * a 4) = a 4 * a 4 := IntWalk.i64_in _ (by omega)
  refine wp_region_up (by kernel_rfl) (by kernel_rfl) ?_
  repeat (go_big_quiet_step (first | (with_reducible exact up_of (fun W hW => HC.out W) _ _) | (with_reducible exact up_of (fun W hW => HL.out W) _ _)))
  refine wpQuiet_nil ?_
  intro w1 hb0
  obtain ⟨hc0, hf0⟩ := bcell hb0
  clear hz0
  go_wp2_with fail
  go_ret3
  exact ⟨rfl, hw1.trans (hb0.mono hw1.size)⟩
set_option maxHeartbeats 400000 in
theorem mvStep_any (s : Int) (w : World) : Calls Try.prog 130 #[.int .i64 s] w fun e w' => e = .returned (.bool (inB s 1 24)) ∧ w = w' := by
  go_enter Try.func130, Try.ntmps130
  go_wp2_with (go_at_call 160; refine (l1In_any _ _ _ _).mono ?_; rintro e w1 ⟨rfl, rfl⟩)
  go_ret
  exact ⟨rfl, rfl⟩
set_option maxRecDepth 100000 in
set_option maxHeartbeats 4000000 in
theorem iFitsStep_g (v : Value) (d : TrD) (s : Int) (w : World) (h : Trn w v d) (hn : d.n ≤ 1048576) (hm : d.m ≤ 1048576) (hl : d.l ≤ 1048576) : Calls Try.prog 29 #[v, .int .i64 s] w (Ans w (ftV d s)) := by
  obtain ⟨f, t, p, rfl, hf, ht, hp⟩ := h
  have HF := Lib.hid hf
  have HT := Lib.hid ht
  have HP := Lib.hid hp
  obtain ⟨A1, c1, rfl, b1⟩ := hf.shape
  obtain ⟨A2, c2, rfl, b2⟩ := ht.shape
  obtain ⟨A3, c3, rfl, b3⟩ := hp.shape
  clear hf ht hp
  have HTr := Lib.hid (fun W (hW : Below w.heap.size w W) => (show Trn W (.agg #[.slice A1 d.n c1, .slice A2 d.m c2, .int .i64 d.c, .slice A3 d.l c3]) d from ⟨_, _, _, rfl, HF.out.up hW, HT.out.up hW, HP.out.up hW⟩))
  have HG := Lib.hid (fun W hW => isTransition_g _ d W (HTr.out W hW) hn hm hl)
  cases e1 : trB d with
  | false =>
    rw [e1] at HG
    rw [show ftV d s = .tuple #[.bool false, .bool false] by simp [ftV, ftOk, e1]]
    clear e1
    go_enter Try.func29, Try.ntmps29
    go_wp2_with fail
    refine (HG.out _ (by (repeat (first | with_reducible exact Below.refl _ _ | with_reducible assumption | with_reducible refine up_alloc ?_ _ | with_reducible refine up_drew ?_ | with_reducible refine up_drewN ?_ _ | (with_reducible refine up_set ?_ ?hset _; case hset => first | (simp; done) | (simp; omega) | omega) | with_reducible refine up_trans ?_ (by with_reducible assumption))))).mono ?_
    rintro e w1 ⟨rfl, hb1⟩
    go_wp2_with fail
    go_ret2
    exact ⟨rfl, by (repeat (first | with_reducible exact Below.refl _ _ | with_reducible assumption | with_reducible refine up_alloc ?_ _ | with_reducible refine up_drew ?_ | with_reducible refine up_drewN ?_ _ | (with_reducible refine up_set ?_ ?hset _; case hset => first | (simp; done) | (simp; omega) | omega) | with_reducible refine up_trans ?_ (by with_reducible assumption)))⟩
  | true =>
    rw [e1] at HG
    have HK := Lib.hid (TrOk.of e1)
    cases e2 : inB s 1 24 with
    | false =>
      rw [show ftV d s = .tuple #[.bool false, .bool false] by simp [ftV, ftOk, e2]]
      clear e1
      go_enter Try.func29, Try.ntmps29
      go_wp2_with fail
      generalize hW : World.alloc _ _ = W at *
      have hbW : Below w.heap.size w W := by subst hW; (repeat (first | with_reducible exact Below.refl _ _ | with_reducible assumption | with_reducible refine up_alloc ?_ _ | with_reducible refine up_drew ?_ | with_reducible refine up_drewN ?_ _ | (with_reducible refine up_set ?_ ?hset _; case hset => first | (simp; done) | (simp; omega) | omega) | with_reducible refine up_trans ?_ (by with_reducible assumption)))
      have k0 : W.cell? ⟨w.heap.size, 0, none⟩ = some (.slice A1 d.n c1) := by subst hW; simp [go_sem]
      have k1 : W.cell? ⟨w.heap.size, 1, none⟩ = some (.slice A2 d.m c2) := by subst hW; simp [go_sem]
      have k2 : W.cell? ⟨w.heap.size, 2, none⟩ = some (.int .i64 d.c) := by subst hW; simp [go_sem]
      have k3 : W.cell? ⟨w.heap.size, 3, none⟩ = some (.slice A3 d.l c3) := by subst hW; simp [go_sem]
      have HSZ := Lib.hid (show W.heap.size = w.heap.size + 1 by subst hW; simp)
      clear hW
      refine (HG.out _ hbW).mono ?_
      rintro e w1 ⟨rfl, hb1⟩
      have q0 := up_keep hb1 k0; have q1 := up_keep hb1 k1; have q2 := up_keep hb1 k2; have q3 := up_keep hb1 k3
      have hw1 := up_trans hbW hb1

      go_wp2_with (go_at_call 132; refine (within_any _ _ _ _).mono ?_; rintro e w1 ⟨rfl, rfl⟩)
      go_ret2
      exact ⟨rfl, hw1⟩
    | true =>
      obtain ⟨i1, i2⟩ := inB_iff.1 e2
      rw [show ftV d s = .tuple #[.bool (stB (mvM d (farM d d.l)) s), .bool true] by simp [ftV, ftOk, e1, e2]]
      clear e1

      go_enter Try.func29, Try.ntmps29
      go_wp2_with fail
      generalize hW : World.alloc _ _ = W at *
      have hbW : Below w.heap.size w W := by subst hW; (repeat (first | with_reducible exact Below.refl _ _ | with_reducible assumption | with_reducible refine up_alloc ?_ _ | with_reducible refine up_drew ?_ | with_reducible refine up_drewN ?_ _ | (with_reducible refine up_set ?_ ?hset _; case hset => first | (simp; done) | (simp; omega) | omega) | with_reducible refine up_trans ?_ (by with_reducible assumption)))
      have k0 : W.cell? ⟨w.heap.size, 0, none⟩ = some (.slice A1 d.n c1) := by subst hW; simp [go_sem]
      have k1 : W.cell? ⟨w.heap.size, 1, none⟩ = some (.slice A2 d.m c2) := by subst hW; simp [go_sem]
      have k2 : W.cell? ⟨w.heap.size, 2, none⟩ = some (.int .i64 d.c) := by subst hW; simp [go_sem]
      have k3 : W.cell? ⟨w.heap.size, 3, none⟩ = some (.slice A3 d.l c3) := by subst hW; simp [go_sem]
      have HSZ := Lib.hid (show W.heap.size = w.heap.size + 1 by subst hW; simp)
      clear hW
      refine (HG.out _ hbW).mono ?_
      rintro e w1 ⟨rfl, hb1⟩
      have q0 := up_keep hb1 k0; have q1 := up_keep hb1 k1; have q2 := up_keep hb1 k2; have q3 := up_keep hb1 k3
      have hw1 := up_trans hbW hb1

      go_wp2_with (go_at_call 132; refine (within_any _ _ _ _).mono ?_; rintro e w1 ⟨rfl, rfl⟩)
      refine (fitsStep_g _ d s _ (HTr.out _ hw1) HK.out i1 i2).mono ?_
      rintro e w2 ⟨rfl, hb2⟩
      go_wp2_with fail
      go_ret2
      exact ⟨rfl, up_trans hw1 hb2⟩
end Go.Proofs.Ytkmnkodgmngaeaa
