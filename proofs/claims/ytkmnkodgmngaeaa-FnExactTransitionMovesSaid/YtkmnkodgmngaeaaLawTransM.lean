/-
  FnExactTransitionMoves: for all arguments the law returns true, and its arguments read afterwards as before. No condition.
-/
import Derived.Test.YtkmnkodgmngaeaaRows
import Derived.Test.YtkmnkodgmngaeaaBase
import Derived.Test.YtkmnkodgmngaeaaSpot
import Derived.Test.YtkmnkodgmngaeaaSlice
import Derived.Test.YtkmnkodgmngaeaaChart
import Derived.Test.YtkmnkodgmngaeaaLawS
import Derived.Test.YtkmnkodgmngaeaaMark
import Derived.Test.YtkmnkodgmngaeaaOpen
import Derived.Test.YtkmnkodgmngaeaaTrod
import Derived.Test.YtkmnkodgmngaeaaInts
import Derived.Test.YtkmnkodgmngaeaaIntsL
import Derived.Test.YtkmnkodgmngaeaaTurned
import Derived.Test.YtkmnkodgmngaeaaTrans
import Derived.Test.YtkmnkodgmngaeaaAppend
import Derived.Test.YtkmnkodgmngaeaaAppendE
import Derived.Test.YtkmnkodgmngaeaaForm
import Derived.Test.YtkmnkodgmngaeaaOpenT
import Derived.Test.YtkmnkodgmngaeaaMatch
import Derived.Test.YtkmnkodgmngaeaaChanged
import Derived.Test.YtkmnkodgmngaeaaIsTrans
import Derived.Test.YtkmnkodgmngaeaaMove
import Derived.Test.YtkmnkodgmngaeaaGcd
import Derived.Test.YtkmnkodgmngaeaaMoves
import Derived.Test.YtkmnkodgmngaeaaAppendM
import Derived.Test.YtkmnkodgmngaeaaCopyI
import Derived.Test.YtkmnkodgmngaeaaMovesOf
import Derived.Test.YtkmnkodgmngaeaaTransFn
import Derived.Test.YtkmnkodgmngaeaaMovesT
import Derived.Deep.RegionHeld3

namespace Go.Proofs.Ytkmnkodgmngaeaa
open Go.RowKit Go.ChangeShapes Go.WideShapes Go.Sort

set_option maxRecDepth 100000 in
set_option maxHeartbeats 8000000 in
theorem fnExactTransitionMoves_walk (v : Value) (d : TrD) (hn : d.n ≤ 9223372036854775807) (hm : d.m ≤ 9223372036854775807) (hl : d.l ≤ 9223372036854775807) (w : World) (h : Trn w v d) :
    Calls Try.prog 3 #[v] w (Ans w (.bool true)) := by
  obtain ⟨f, t, p, hv, hf, ht, hp⟩ := id h
  subst hv
  clear hf ht hp
  by_cases hle : d.n + d.m + d.l ≤ 1048576
  · have HZ := szV_pos (left := 1048576) (n := d.n + d.m + d.l) (by omega)
    have HS := Lib.hid (fun v w' (hw : Trn w' v d) => sTransitionMoves_g v d w' hw (by omega) (by omega) (by omega))
    have HI := Lib.hid (fun v w' (hw : Trn w' v d) => iTransitionMoves_g v d w' hw (by omega) (by omega) (by omega))
    have hsl := sel_le (trB d) d.l
    generalize trB d = q at *
    generalize sel q d.l = r at *
    generalize mvM d = M at *
    have eq1 : (q != q) = false := by simp
    go_enter Try.func3, Try.ntmps3
    go_wp2_with fail
    generalize hW : World.alloc _ _ = W at *
    have hbW : Below w.heap.size w W := by subst hW; (repeat (first | with_reducible exact Below.refl _ _ | with_reducible assumption | with_reducible refine up_alloc ?_ _ | with_reducible refine up_drew ?_ | with_reducible refine up_drewN ?_ _ | (with_reducible refine up_set ?_ ?hset _; case hset => first | (simp; done) | (simp; omega) | omega) | with_reducible refine up_trans ?_ (by with_reducible assumption)))
    have k0 : W.cell? ⟨w.heap.size, 0, none⟩ = some f := by subst hW; simp [go_sem]
    have k1 : W.cell? ⟨w.heap.size, 1, none⟩ = some t := by subst hW; simp [go_sem]
    have k2 : W.cell? ⟨w.heap.size, 2, none⟩ = some (.int .i64 d.c) := by subst hW; simp [go_sem]
    have k3 : W.cell? ⟨w.heap.size, 3, none⟩ = some p := by subst hW; simp [go_sem]
    clear hW
    have hT := h.up hbW
    have hs00 : w.heap.size < W.heap.size := lt_of_cell k0
    have hW0 := Below.refl W.heap.size W
    refine (szTransition_g _ d _ _ hT (by omega) (by omega) hn hm hl).mono ?_
    rintro e w1 ⟨rfl, hb0⟩
    have hz0 := hb0.size
    have hW1 := up_trans hW0 hb0
    have k0_1 := up_keep hb0 k0
    have k1_1 := up_keep hb0 k1
    have k2_1 := up_keep hb0 k2
    have k3_1 := up_keep hb0 k3
    have h_a_1 := hT.up hb0
    go_wp2_with fail
    refine (toTransition_g _ d _ h_a_1 (by omega) (by omega) (by omega)).mono ?_
    rintro e w2 ⟨t0, rfl, h_t0_2, hb1⟩
    have hz1 := hb1.size
    have hW2 := up_trans hW1 hb1
    obtain ⟨t0_f, t0_t, t0_p, he_t0, g1, g2, g3, _⟩ := id h_t0_2
    obtain ⟨t0_A0, t0_c0, rfl, _⟩ := g1.shape
    obtain ⟨t0_A1, t0_c1, rfl, _⟩ := g2.shape
    obtain ⟨t0_A2, t0_c2, rfl, _⟩ := g3.shape
    subst he_t0
    clear g1 g2 g3
    go_wp2_with fail
    refine (HS.out (.agg #[.slice t0_A0 d.n t0_c0, .slice t0_A1 d.m t0_c1, .int .i64 d.c, .slice t0_A2 d.l t0_c2]) _ h_t0_2.trn).mono ?_
    rintro e w3 ⟨rS, rfl, h_rS_3, hb2⟩
    have hz2 := hb2.size
    have hW3 := up_trans hW2 hb2
    have k0_2 := up_keep hb1 k0_1
    have k0_3 := up_keep hb2 k0_2
    have k1_2 := up_keep hb1 k1_1
    have k1_3 := up_keep hb2 k1_2
    have k2_2 := up_keep hb1 k2_1
    have k2_3 := up_keep hb2 k2_2
    have k3_2 := up_keep hb1 k3_1
    have k3_3 := up_keep hb2 k3_2
    have h_a_2 := h_a_1.up hb1
    have h_a_3 := h_a_2.up hb2
    go_wp2_with fail
    refine (toTransition_g _ d _ h_a_3 (by omega) (by omega) (by omega)).mono ?_
    rintro e w4 ⟨x0, rfl, h_x0_4, hb3⟩
    have hz3 := hb3.size
    have hW4 := up_trans hW3 hb3
    obtain ⟨x0_f, x0_t, x0_p, he_x0, g1, g2, g3, _⟩ := id h_x0_4
    obtain ⟨x0_A0, x0_c0, rfl, _⟩ := g1.shape
    obtain ⟨x0_A1, x0_c1, rfl, _⟩ := g2.shape
    obtain ⟨x0_A2, x0_c2, rfl, _⟩ := g3.shape
    subst he_x0
    clear g1 g2 g3
    have k0_4 := up_keep hb3 k0_3
    have yy0 := up_keep (below_alloc w4 (.cells #[.slice x0_A0 d.n x0_c0, .slice x0_A1 d.m x0_c1, .int .i64 d.c, .slice x0_A2 d.l x0_c2] 32)) k0_4
    have k1_4 := up_keep hb3 k1_3
    have yy1 := up_keep (below_alloc w4 (.cells #[.slice x0_A0 d.n x0_c0, .slice x0_A1 d.m x0_c1, .int .i64 d.c, .slice x0_A2 d.l x0_c2] 32)) k1_4
    have k2_4 := up_keep hb3 k2_3
    have yy2 := up_keep (below_alloc w4 (.cells #[.slice x0_A0 d.n x0_c0, .slice x0_A1 d.m x0_c1, .int .i64 d.c, .slice x0_A2 d.l x0_c2] 32)) k2_4
    have k3_4 := up_keep hb3 k3_3
    have yy3 := up_keep (below_alloc w4 (.cells #[.slice x0_A0 d.n x0_c0, .slice x0_A1 d.m x0_c1, .int .i64 d.c, .slice x0_A2 d.l x0_c2] 32)) k3_4
    go_wp2_with fail
    clear yy0 yy1 yy2 yy3
    obtain ⟨w5, hW⟩ : ∃ W, W = World.alloc w4 (.cells #[.slice x0_A0 d.n x0_c0, .slice x0_A1 d.m x0_c1, .int .i64 d.c, .slice x0_A2 d.l x0_c2] 32) := ⟨_, rfl⟩
    rw [← hW]
    have hb4 : Below w4.heap.size w4 w5 := by rw [hW]; exact below_alloc _ _
    have hs4 : w4.heap.size < w5.heap.size := by rw [hW]; simp
    have bx0 : w5.cell? ⟨w4.heap.size, 0, none⟩ = some (.slice x0_A0 d.n x0_c0) := by rw [hW]; simp [go_sem]
    have bx1 : w5.cell? ⟨w4.heap.size, 1, none⟩ = some (.slice x0_A1 d.m x0_c1) := by rw [hW]; simp [go_sem]
    have bx2 : w5.cell? ⟨w4.heap.size, 2, none⟩ = some (.int .i64 d.c) := by rw [hW]; simp [go_sem]
    have bx3 : w5.cell? ⟨w4.heap.size, 3, none⟩ = some (.slice x0_A2 d.l x0_c2) := by rw [hW]; simp [go_sem]
    clear hW
    have hz4 := hb4.size
    have hW5 := up_trans hW4 hb4
    have h_x0_5 := h_x0_4.up hb4
    refine (HI.out (.agg #[.slice x0_A0 d.n x0_c0, .slice x0_A1 d.m x0_c1, .int .i64 d.c, .slice x0_A2 d.l x0_c2]) _ h_x0_5.trn).mono ?_
    rintro e w6 ⟨rI, rfl, h_rI_6, hb5⟩
    have hz5 := hb5.size
    have hW6 := up_trans hW5 hb5
    have h_rS_4 := h_rS_3.up hb3
    have h_rS_5 := h_rS_4.up hb4
    have h_rS_6 := h_rS_5.up hb5
    go_wp2_with fail
    refine (eqMoveS_g rI rS _ _ _ h_rI_6.moves h_rS_6.moves (by omega)).mono ?_
    rintro e w7 ⟨rfl, hb6⟩
    have hz6 := hb6.size
    have hW7 := up_trans hW6 hb6
    have k0_5 := up_keep hb4 k0_4
    have k0_6 := up_keep hb5 k0_5
    have k0_7 := up_keep hb6 k0_6
    have k1_5 := up_keep hb4 k1_4
    have k1_6 := up_keep hb5 k1_5
    have k1_7 := up_keep hb6 k1_6
    have k2_5 := up_keep hb4 k2_4
    have k2_6 := up_keep hb5 k2_5
    have k2_7 := up_keep hb6 k2_6
    have k3_5 := up_keep hb4 k3_4
    have k3_6 := up_keep hb5 k3_5
    have k3_7 := up_keep hb6 k3_6
    have bx0_6 := up_keep hb5 bx0
    have bx0_7 := up_keep hb6 bx0_6
    have bx1_6 := up_keep hb5 bx1
    have bx1_7 := up_keep hb6 bx1_6
    have bx2_6 := up_keep hb5 bx2
    have bx2_7 := up_keep hb6 bx2_6
    have bx3_6 := up_keep hb5 bx3
    have bx3_7 := up_keep hb6 bx3_6
    go_wp2_with fail
    have h_a_4 := h_a_3.up hb3
    have h_a_5 := h_a_4.up hb4
    have h_a_6 := h_a_5.up hb5
    have h_a_7 := h_a_6.up hb6
    have h_x0_6 := h_x0_5.up hb5
    have h_x0_7 := h_x0_6.up hb6
    go_region_held3 (fun w' => w'.cell? ⟨w.heap.size, 0, none⟩ = some (f) ∧ w'.cell? ⟨w.heap.size, 1, none⟩ = some (t) ∧ w'.cell? ⟨w.heap.size, 2, none⟩ = some (.int .i64 d.c) ∧ w'.cell? ⟨w.heap.size, 3, none⟩ = some (p) ∧ w'.cell? ⟨w4.heap.size, 0, none⟩ = some (.slice x0_A0 d.n x0_c0) ∧ w'.cell? ⟨w4.heap.size, 1, none⟩ = some (.slice x0_A1 d.m x0_c1) ∧ w'.cell? ⟨w4.heap.size, 2, none⟩ = some (.int .i64 d.c) ∧ w'.cell? ⟨w4.heap.size, 3, none⟩ = some (.slice x0_A2 d.l x0_c2)) (first | exact ⟨by assumption, by assumption, by assumption, by assumption, by assumption, by assumption, by assumption, by assumption⟩ | go_keep) (first | (go_at_call 17; refine (toTransition_g _ d _ (h_a_7.up (show Below w7.heap.size w7 _ from (by (repeat (first | with_reducible exact Below.refl _ _ | with_reducible assumption | with_reducible refine up_alloc ?_ _ | with_reducible refine up_drew ?_ | with_reducible refine up_drewN ?_ _ | (with_reducible refine up_set ?_ ?hset _; case hset => first | (simp; done) | (simp; omega) | omega) | with_reducible refine up_trans ?_ (by with_reducible assumption)))))) (by omega) (by omega) (by omega)).mono ?_; rintro e wt ⟨tt, rfl, hot, hbt⟩; have hk0 := up_keep (show Below w7.heap.size w7 wt from (by (repeat (first | with_reducible exact Below.refl _ _ | with_reducible assumption | with_reducible refine up_alloc ?_ _ | with_reducible refine up_drew ?_ | with_reducible refine up_drewN ?_ _ | (with_reducible refine up_set ?_ ?hset _; case hset => first | (simp; done) | (simp; omega) | omega) | with_reducible refine up_trans ?_ (by with_reducible assumption))))) k0_7; have hk1 := up_keep (show Below w7.heap.size w7 wt from (by (repeat (first | with_reducible exact Below.refl _ _ | with_reducible assumption | with_reducible refine up_alloc ?_ _ | with_reducible refine up_drew ?_ | with_reducible refine up_drewN ?_ _ | (with_reducible refine up_set ?_ ?hset _; case hset => first | (simp; done) | (simp; omega) | omega) | with_reducible refine up_trans ?_ (by with_reducible assumption))))) k1_7; have hk2 := up_keep (show Below w7.heap.size w7 wt from (by (repeat (first | with_reducible exact Below.refl _ _ | with_reducible assumption | with_reducible refine up_alloc ?_ _ | with_reducible refine up_drew ?_ | with_reducible refine up_drewN ?_ _ | (with_reducible refine up_set ?_ ?hset _; case hset => first | (simp; done) | (simp; omega) | omega) | with_reducible refine up_trans ?_ (by with_reducible assumption))))) k2_7; have hk3 := up_keep (show Below w7.heap.size w7 wt from (by (repeat (first | with_reducible exact Below.refl _ _ | with_reducible assumption | with_reducible refine up_alloc ?_ _ | with_reducible refine up_drew ?_ | with_reducible refine up_drewN ?_ _ | (with_reducible refine up_set ?_ ?hset _; case hset => first | (simp; done) | (simp; omega) | omega) | with_reducible refine up_trans ?_ (by with_reducible assumption))))) k3_7; have hk4 := up_keep (show Below w7.heap.size w7 wt from (by (repeat (first | with_reducible exact Below.refl _ _ | with_reducible assumption | with_reducible refine up_alloc ?_ _ | with_reducible refine up_drew ?_ | with_reducible refine up_drewN ?_ _ | (with_reducible refine up_set ?_ ?hset _; case hset => first | (simp; done) | (simp; omega) | omega) | with_reducible refine up_trans ?_ (by with_reducible assumption))))) bx0_7; have hk5 := up_keep (show Below w7.heap.size w7 wt from (by (repeat (first | with_reducible exact Below.refl _ _ | with_reducible assumption | with_reducible refine up_alloc ?_ _ | with_reducible refine up_drew ?_ | with_reducible refine up_drewN ?_ _ | (with_reducible refine up_set ?_ ?hset _; case hset => first | (simp; done) | (simp; omega) | omega) | with_reducible refine up_trans ?_ (by with_reducible assumption))))) bx1_7; have hk6 := up_keep (show Below w7.heap.size w7 wt from (by (repeat (first | with_reducible exact Below.refl _ _ | with_reducible assumption | with_reducible refine up_alloc ?_ _ | with_reducible refine up_drew ?_ | with_reducible refine up_drewN ?_ _ | (with_reducible refine up_set ?_ ?hset _; case hset => first | (simp; done) | (simp; omega) | omega) | with_reducible refine up_trans ?_ (by with_reducible assumption))))) bx2_7; have hk7 := up_keep (show Below w7.heap.size w7 wt from (by (repeat (first | with_reducible exact Below.refl _ _ | with_reducible assumption | with_reducible refine up_alloc ?_ _ | with_reducible refine up_drew ?_ | with_reducible refine up_drewN ?_ _ | (with_reducible refine up_set ?_ ?hset _; case hset => first | (simp; done) | (simp; omega) | omega) | with_reducible refine up_trans ?_ (by with_reducible assumption))))) bx3_7) | (go_at_call 20; refine (eqTransition_g _ tt d _ (h_x0_7.trn.up (show Below w7.heap.size w7 _ from (by (repeat (first | with_reducible exact Below.refl _ _ | with_reducible assumption | with_reducible refine up_alloc ?_ _ | with_reducible refine up_drew ?_ | with_reducible refine up_drewN ?_ _ | (with_reducible refine up_set ?_ ?hset _; case hset => first | (simp; done) | (simp; omega) | omega) | with_reducible refine up_trans ?_ (by with_reducible assumption)))))) (hot.trn.up (show Below wt.heap.size wt _ from (by (repeat (first | with_reducible exact Below.refl _ _ | with_reducible assumption | with_reducible refine up_alloc ?_ _ | with_reducible refine up_drew ?_ | with_reducible refine up_drewN ?_ _ | (with_reducible refine up_set ?_ ?hset _; case hset => first | (simp; done) | (simp; omega) | omega) | with_reducible refine up_trans ?_ (by with_reducible assumption)))))) (by omega) (by omega) (by omega)).mono ?_; rintro e w8 ⟨rfl, hbt2⟩; have hb7 := (show Below w7.heap.size w7 w8 from (by (repeat (first | with_reducible exact Below.refl _ _ | with_reducible assumption | with_reducible refine up_alloc ?_ _ | with_reducible refine up_drew ?_ | with_reducible refine up_drewN ?_ _ | (with_reducible refine up_set ?_ ?hset _; case hset => first | (simp; done) | (simp; omega) | omega) | with_reducible refine up_trans ?_ (by with_reducible assumption))))); have hk0 := up_keep (show Below w7.heap.size w7 w8 from (by (repeat (first | with_reducible exact Below.refl _ _ | with_reducible assumption | with_reducible refine up_alloc ?_ _ | with_reducible refine up_drew ?_ | with_reducible refine up_drewN ?_ _ | (with_reducible refine up_set ?_ ?hset _; case hset => first | (simp; done) | (simp; omega) | omega) | with_reducible refine up_trans ?_ (by with_reducible assumption))))) k0_7; have hk1 := up_keep (show Below w7.heap.size w7 w8 from (by (repeat (first | with_reducible exact Below.refl _ _ | with_reducible assumption | with_reducible refine up_alloc ?_ _ | with_reducible refine up_drew ?_ | with_reducible refine up_drewN ?_ _ | (with_reducible refine up_set ?_ ?hset _; case hset => first | (simp; done) | (simp; omega) | omega) | with_reducible refine up_trans ?_ (by with_reducible assumption))))) k1_7; have hk2 := up_keep (show Below w7.heap.size w7 w8 from (by (repeat (first | with_reducible exact Below.refl _ _ | with_reducible assumption | with_reducible refine up_alloc ?_ _ | with_reducible refine up_drew ?_ | with_reducible refine up_drewN ?_ _ | (with_reducible refine up_set ?_ ?hset _; case hset => first | (simp; done) | (simp; omega) | omega) | with_reducible refine up_trans ?_ (by with_reducible assumption))))) k2_7; have hk3 := up_keep (show Below w7.heap.size w7 w8 from (by (repeat (first | with_reducible exact Below.refl _ _ | with_reducible assumption | with_reducible refine up_alloc ?_ _ | with_reducible refine up_drew ?_ | with_reducible refine up_drewN ?_ _ | (with_reducible refine up_set ?_ ?hset _; case hset => first | (simp; done) | (simp; omega) | omega) | with_reducible refine up_trans ?_ (by with_reducible assumption))))) k3_7; have hk4 := up_keep (show Below w7.heap.size w7 w8 from (by (repeat (first | with_reducible exact Below.refl _ _ | with_reducible assumption | with_reducible refine up_alloc ?_ _ | with_reducible refine up_drew ?_ | with_reducible refine up_drewN ?_ _ | (with_reducible refine up_set ?_ ?hset _; case hset => first | (simp; done) | (simp; omega) | omega) | with_reducible refine up_trans ?_ (by with_reducible assumption))))) bx0_7; have hk5 := up_keep (show Below w7.heap.size w7 w8 from (by (repeat (first | with_reducible exact Below.refl _ _ | with_reducible assumption | with_reducible refine up_alloc ?_ _ | with_reducible refine up_drew ?_ | with_reducible refine up_drewN ?_ _ | (with_reducible refine up_set ?_ ?hset _; case hset => first | (simp; done) | (simp; omega) | omega) | with_reducible refine up_trans ?_ (by with_reducible assumption))))) bx1_7; have hk6 := up_keep (show Below w7.heap.size w7 w8 from (by (repeat (first | with_reducible exact Below.refl _ _ | with_reducible assumption | with_reducible refine up_alloc ?_ _ | with_reducible refine up_drew ?_ | with_reducible refine up_drewN ?_ _ | (with_reducible refine up_set ?_ ?hset _; case hset => first | (simp; done) | (simp; omega) | omega) | with_reducible refine up_trans ?_ (by with_reducible assumption))))) bx2_7; have hk7 := up_keep (show Below w7.heap.size w7 w8 from (by (repeat (first | with_reducible exact Below.refl _ _ | with_reducible assumption | with_reducible refine up_alloc ?_ _ | with_reducible refine up_drew ?_ | with_reducible refine up_drewN ?_ _ | (with_reducible refine up_set ?_ ?hset _; case hset => first | (simp; done) | (simp; omega) | omega) | with_reducible refine up_trans ?_ (by with_reducible assumption))))) bx3_7))
    all_goals
      have hz7 := hb7.size
      have hW8 := up_trans hW7 hb7
      have k0_8 := up_keep hb7 k0_7
      have k1_8 := up_keep hb7 k1_7
      have k2_8 := up_keep hb7 k2_7
      have k3_8 := up_keep hb7 k3_7
      have bx0_8 := up_keep hb7 bx0_7
      have bx1_8 := up_keep hb7 bx1_7
      have bx2_8 := up_keep hb7 bx2_7
      have bx3_8 := up_keep hb7 bx3_7
      have h_x0_8 := h_x0_7.up hb7
      go_wp2_with fail
      refine (markTransition_g _ (.agg #[.slice x0_A0 d.n x0_c0, .slice x0_A1 d.m x0_c1, .int .i64 d.c, .slice x0_A2 d.l x0_c2]) _ (1) _ h_x0_8 (by omega) (by omega) (by omega) (by omega) (by omega)).mono ?_
      rintro e w9 ⟨rfl, h_x0_9, hg8⟩
      have ht8 : Turned w3.heap.size w4.heap.size w8 w9 := hg8 _ _ h_x0_4.trn rfl rfl rfl
      have hz8 := ht8.size
      have hW9 := hW8.trans ((ht8.below (by omega)).mono (by omega))
      have h_rI_7 := h_rI_6.up hb6
      have h_rI_8 := h_rI_7.up hb7
      have h_rI_9 := h_rI_8.turn ht8 (by omega)
      have h_rS_7 := h_rS_6.up hb6
      have h_rS_8 := h_rS_7.up hb7
      have h_rS_9 := Moves.turn h_rS_3.moves h_rS_8.moves ht8 (by omega) (by omega)
      go_wp2_with fail
      refine (eqMoveS_g rI rS _ _ _ h_rI_9.moves h_rS_9 (by omega)).mono ?_
      rintro e w10 ⟨rfl, hb9⟩
      have hz9 := hb9.size
      have hW10 := up_trans hW9 hb9
      have h_rI_10 := h_rI_9.up hb9
      go_wp2_with fail
      refine (markMoveS_g _ rI _ _ (1) _ h_rI_10 (by omega) (by omega) (by omega)).mono ?_
      rintro e w11 ⟨rfl, hg10, h_rI_11⟩
      have ht10 : Turned w5.heap.size w6.heap.size w10 w11 := markM_turned h_rI_10 h_rI_6.moves hg10
      have hz10 := ht10.size
      have hW11 := hW10.trans ((ht10.below (by omega)).mono (by omega))
      go_wp2_with fail
      refine (heldMoveS_g rI _ 1 _ h_rI_11.moves (by omega) (by omega) (by omega)).mono ?_
      rintro e w12 ⟨rfl, hb11⟩
      have hz11 := hb11.size
      have hW12 := up_trans hW11 hb11
      have k0_9 := ht8.cell k0_8 (.inl (by omega))
      have k0_10 := up_keep hb9 k0_9
      have k0_11 := ht10.cell k0_10 (.inl (by omega))
      have k0_12 := up_keep hb11 k0_11
      have k1_9 := ht8.cell k1_8 (.inl (by omega))
      have k1_10 := up_keep hb9 k1_9
      have k1_11 := ht10.cell k1_10 (.inl (by omega))
      have k1_12 := up_keep hb11 k1_11
      have k2_9 := ht8.cell k2_8 (.inl (by omega))
      have k2_10 := up_keep hb9 k2_9
      have k2_11 := ht10.cell k2_10 (.inl (by omega))
      have k2_12 := up_keep hb11 k2_11
      have k3_9 := ht8.cell k3_8 (.inl (by omega))
      have k3_10 := up_keep hb9 k3_9
      have k3_11 := ht10.cell k3_10 (.inl (by omega))
      have k3_12 := up_keep hb11 k3_11
      have bx0_9 := ht8.cell bx0_8 (.inr (by omega))
      have bx0_10 := up_keep hb9 bx0_9
      have bx0_11 := ht10.cell bx0_10 (.inl (by omega))
      have bx0_12 := up_keep hb11 bx0_11
      have bx1_9 := ht8.cell bx1_8 (.inr (by omega))
      have bx1_10 := up_keep hb9 bx1_9
      have bx1_11 := ht10.cell bx1_10 (.inl (by omega))
      have bx1_12 := up_keep hb11 bx1_11
      have bx2_9 := ht8.cell bx2_8 (.inr (by omega))
      have bx2_10 := up_keep hb9 bx2_9
      have bx2_11 := ht10.cell bx2_10 (.inl (by omega))
      have bx2_12 := up_keep hb11 bx2_11
      have bx3_9 := ht8.cell bx3_8 (.inr (by omega))
      have bx3_10 := up_keep hb9 bx3_9
      have bx3_11 := ht10.cell bx3_10 (.inl (by omega))
      have bx3_12 := up_keep hb11 bx3_11
      have h_a_8 := h_a_7.up hb7
      have h_a_9 := Trn.turn h_a_3 rfl rfl rfl h_a_8 ht8 (by omega) (by omega)
      have h_a_10 := h_a_9.up hb9
      have h_a_11 := Trn.turn h_a_5 rfl rfl rfl h_a_10 ht10 (by omega) (by omega)
      have h_a_12 := h_a_11.up hb11
      go_wp2_with fail
      refine (toTransition_g _ d _ h_a_12 (by omega) (by omega) (by omega)).mono ?_
      rintro e w13 ⟨z0, rfl, h_z0_13, hb12⟩
      have hz12 := hb12.size
      have hW13 := up_trans hW12 hb12
      obtain ⟨z0_f, z0_t, z0_p, he_z0, g1, g2, g3, _⟩ := id h_z0_13
      obtain ⟨z0_A0, z0_c0, rfl, _⟩ := g1.shape
      obtain ⟨z0_A1, z0_c1, rfl, _⟩ := g2.shape
      obtain ⟨z0_A2, z0_c2, rfl, _⟩ := g3.shape
      subst he_z0
      clear g1 g2 g3
      go_wp2_with fail
      refine (HI.out (.agg #[.slice z0_A0 d.n z0_c0, .slice z0_A1 d.m z0_c1, .int .i64 d.c, .slice z0_A2 d.l z0_c2]) _ h_z0_13.trn).mono ?_
      rintro e w14 ⟨rH, rfl, h_rH_14, hb13⟩
      have hz13 := hb13.size
      have hW14 := up_trans hW13 hb13
      have h_rS_10 := h_rS_9.up hb9
      have h_rS_11 := Moves.turn h_rS_5.moves h_rS_10 ht10 (by omega) (by omega)
      have h_rS_12 := h_rS_11.up hb11
      have h_rS_13 := h_rS_12.up hb12
      have h_rS_14 := h_rS_13.up hb13
      go_wp2_with fail
      refine (eqMoveS_g rH rS _ _ _ h_rH_14.moves h_rS_14 (by omega)).mono ?_
      rintro e w15 ⟨rfl, hb14⟩
      have hz14 := hb14.size
      have hW15 := up_trans hW14 hb14
      have h_rI_12 := h_rI_11.up hb11
      have h_rI_13 := h_rI_12.up hb12
      have h_rI_14 := h_rI_13.up hb13
      have h_rI_15 := h_rI_14.up hb14
      go_wp2_with fail
      refine (heldMoveS_g rI _ 1 _ h_rI_15.moves (by omega) (by omega) (by omega)).mono ?_
      rintro e w16 ⟨rfl, hb15⟩
      have hz15 := hb15.size
      have hW16 := up_trans hW15 hb15
      go_wp2_with fail
      go_ret
      exact Ans.bool rfl (hbW.trans (hW16.mono hbW.size))
  · have HZ := szV_neg (left := 1048576) (n := d.n + d.m + d.l) (by omega)
    go_enter Try.func3, Try.ntmps3
    go_wp2_with fail
    refine (szTransition_g _ d _ _ (h.up (by (repeat (first | with_reducible exact Below.refl _ _ | with_reducible assumption | with_reducible refine up_alloc ?_ _ | with_reducible refine up_drew ?_ | with_reducible refine up_drewN ?_ _ | (with_reducible refine up_set ?_ ?hset _; case hset => first | (simp; done) | (simp; omega) | omega) | with_reducible refine up_trans ?_ (by with_reducible assumption))))) (by omega) (by omega) hn hm hl).mono ?_
    rintro e w1 ⟨rfl, hb0⟩
    go_wp2_with fail
    go_ret
    exact Ans.bool rfl (by (repeat (first | with_reducible exact Below.refl _ _ | with_reducible assumption | with_reducible refine up_alloc ?_ _ | with_reducible refine up_drew ?_ | with_reducible refine up_drewN ?_ _ | (with_reducible refine up_set ?_ ?hset _; case hset => first | (simp; done) | (simp; omega) | omega) | with_reducible refine up_trans ?_ (by with_reducible assumption))))

set_option maxRecDepth 100000 in
theorem fnExactTransitionMoves_law : LawWalk Try.prog 3 Try.f3 := by
  intro H enc W base args ds ps hval hA
  rw [Try.params3] at hval hA
  obtain ⟨v0, d0, rfl, rfl, h0⟩ := trodAll_one hA
  obtain ⟨D, hs, b1, b2, b3⟩ := open_trans (hval 0 _ v0 rfl rfl) h0
  exact fnExactTransitionMoves_walk v0 D  b1 b2 b3 W hs

set_option maxRecDepth 100000 in
set_option maxHeartbeats 4000000 in
theorem fnExactTransitionMoves_wit (os : Os) (H : Type) (enc : TypeId × Value → H) : ∃ (w : World) (tape : Tape) (i : Input), w.os = os ∧ (w.forCall tape i).Shaped Try.checked.prog ∧ i.vars = [] ∧ Input.okWide Try.checked.prog (w.forCall tape i) .any w.heap.size 3 i ∧
      Rows.fnExactTransitionMovesSpec.pre6 enc Try.checked.prog Try.f3 [] false (w.forCall tape i).memory i.args ∧ ({} : Assume).holds Try.checked.prog (lone (Frame.enter Try.checked.prog 3 i.args .normal) [] (w.forCall tape i)) :=
  ChangeSpec.witness6 (enc := enc) (C := Try.checked) false ⟨#[], #[.agg #[.slice none 0 0, .slice none 0 0, .int .i64 0, .slice none 0 0]], []⟩ 8 (by kernel_rfl) (by kernel_rfl) (by kernel_rfl) (by kernel_rfl)

set_option maxRecDepth 100000 in
set_option maxHeartbeats 4000000 in
theorem fnExactTransitionMoves_row (os : Os) (started : os.Started) (H : Type) (enc : TypeId × Value → H) :
    ReturnsInHanded {} Try.checked os 3 .any (Rows.fnExactTransitionMovesSpec.pre6 enc Try.checked.prog Try.f3 [] false) (Rows.fnExactTransitionMovesSpec.post enc Try.checked.prog Try.f3 false true false false) :=
  lifted_of (C := Try.checked) (s := Rows.fnExactTransitionMovesSpec) (tb := 4) (by kernel_rfl) (by kernel_rfl) (by kernel_rfl) (by kernel_rfl) Try.func3 rfl Try.underlying4 rfl
      (fun H ds h => by
        have h2 : ds.length = 1 := by rw [Try.params3] at h; exact h
        match ds, h2 with
        | [_], _ => rfl)
      fnExactTransitionMoves_law os started H enc (fnExactTransitionMoves_wit os H enc)

set_option maxRecDepth 100000 in
set_option maxHeartbeats 4000000 in
theorem fnExactTransitionMoves_holds : Rows.FnExactTransitionMovesSaid :=
  OpenClaim.holds_of_wide 3 Try.f3 rfl rfl rfl rfl rfl rfl rfl ⟨rfl, rfl, rfl, rfl, rfl⟩ rfl rfl rfl rfl rfl (by kernel_rfl) Try.func3 (by kernel_rfl)
    (of_decide_eq_true (by kernel_rfl)) (by unfold Func.isWrapper; first | (rw [if_pos (by decide +kernel)]; kernel_rfl) | (rw [if_neg (by decide +kernel)]; exact ⟨rfl, rfl⟩))
    (fun os started H enc _ => fnExactTransitionMoves_row os started H enc)

#print axioms fnExactTransitionMoves_holds
end Go.Proofs.Ytkmnkodgmngaeaa
