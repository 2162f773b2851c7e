/-
  FnExactBestSwap: for all arguments the law returns true, and its arguments read afterwards as before. No condition.
-/
import Derived.Test.YtkmnkodgmngaeaaRows
import Derived.Test.YtkmnkodgmngaeaaBase
import Derived.Test.YtkmnkodgmngaeaaSpot
import Derived.Test.YtkmnkodgmngaeaaSlice
import Derived.Test.YtkmnkodgmngaeaaChart
import Derived.Test.YtkmnkodgmngaeaaLawS
import Derived.Test.YtkmnkodgmngaeaaMark
import Derived.Test.YtkmnkodgmngaeaaOpen
import Derived.Test.YtkmnkodgmngaeaaTrod
import Derived.Test.YtkmnkodgmngaeaaInts
import Derived.Test.YtkmnkodgmngaeaaIntsL
import Derived.Test.YtkmnkodgmngaeaaTurned
import Derived.Test.YtkmnkodgmngaeaaTrans
import Derived.Test.YtkmnkodgmngaeaaOpenT
import Derived.Test.YtkmnkodgmngaeaaAppend
import Derived.Test.YtkmnkodgmngaeaaAppendE
import Derived.Test.YtkmnkodgmngaeaaForm
import Derived.Test.YtkmnkodgmngaeaaMatch
import Derived.Test.YtkmnkodgmngaeaaChanged
import Derived.Test.YtkmnkodgmngaeaaIsTrans
import Derived.Test.YtkmnkodgmngaeaaCopyI
import Derived.Test.YtkmnkodgmngaeaaNewT
import Derived.Test.YtkmnkodgmngaeaaMoves
import Derived.Test.YtkmnkodgmngaeaaAppendM
import Derived.Test.YtkmnkodgmngaeaaMovesOf
import Derived.Test.YtkmnkodgmngaeaaSwapT
import Derived.Test.YtkmnkodgmngaeaaBestSwap
import Derived.Deep.RegionHeld3

namespace Go.Proofs.Ytkmnkodgmngaeaa
open Go.RowKit Go.ChangeShapes Go.WideShapes Go.Sort

set_option maxRecDepth 100000 in
set_option maxHeartbeats 8000000 in
theorem fnExactBestSwap_walk (v : Value) (d : TrD) (hn : d.n ≤ 9223372036854775807) (hm : d.m ≤ 9223372036854775807) (hl : d.l ≤ 9223372036854775807) (w : World) (h : Trn w v d) :
    Calls Try.prog 7 #[v] w (Ans w (.bool true)) := by
  obtain ⟨f, t, p, hv, hf, ht, hp⟩ := id h
  subst hv
  clear hf ht hp
  by_cases hle : d.n + d.m + d.l ≤ 1048576
  · have HZ := szV_pos (left := 1048576) (n := d.n + d.m + d.l) (by omega)
    have HS := Lib.hid (fun v w' (hw : Trn w' v d) => sBestSwap_g v d w' hw (by omega) (by omega) (by omega))
    have HI := Lib.hid (fun v w' (hw : Trn w' v d) => iBestSwap_g v d w' hw (by omega) (by omega) (by omega))
    obtain ⟨za, zb, zc, zq, hv⟩ := bsV_shape d
    rw [hv] at HI HS
    clear hv
    have eza : (za != za) = false := by simp
    have ezb : (zb != zb) = false := by simp
    have ezc : (zc != zc) = false := by simp
    have ezq : (zq != zq) = false := by simp
    go_enter Try.func7, Try.ntmps7
    go_wp2_with fail
    generalize hW : World.alloc _ _ = W at *
    have hbW : Below w.heap.size w W := by subst hW; (repeat (first | with_reducible exact Below.refl _ _ | with_reducible assumption | with_reducible refine up_alloc ?_ _ | with_reducible refine up_drew ?_ | with_reducible refine up_drewN ?_ _ | (with_reducible refine up_set ?_ ?hset _; case hset => first | (simp; done) | (simp; omega) | omega) | with_reducible refine up_trans ?_ (by with_reducible assumption)))
    have k0 : W.cell? ⟨w.heap.size, 0, none⟩ = some f := by subst hW; simp [go_sem]
    have k1 : W.cell? ⟨w.heap.size, 1, none⟩ = some t := by subst hW; simp [go_sem]
    have k2 : W.cell? ⟨w.heap.size, 2, none⟩ = some (.int .i64 d.c) := by subst hW; simp [go_sem]
    have k3 : W.cell? ⟨w.heap.size, 3, none⟩ = some p := by subst hW; simp [go_sem]
    clear hW
    have hT := h.up hbW
    have hs00 : w.heap.size < W.heap.size := lt_of_cell k0
    have hW0 := Below.refl W.heap.size W
    refine (szTransition_g _ d _ _ hT (by omega) (by omega) hn hm hl).mono ?_
    rintro e w1 ⟨rfl, hb0⟩
    have hz0 := hb0.size
    have hW1 := up_trans hW0 hb0
    have k0_1 := up_keep hb0 k0
    have k1_1 := up_keep hb0 k1
    have k2_1 := up_keep hb0 k2
    have k3_1 := up_keep hb0 k3
    have h_a_1 := hT.up hb0
    go_wp2_with fail
    refine (toTransition_g _ d _ h_a_1 (by omega) (by omega) (by omega)).mono ?_
    rintro e w2 ⟨t0, rfl, h_t0_2, hb1⟩
    have hz1 := hb1.size
    have hW2 := up_trans hW1 hb1
    obtain ⟨t0_f, t0_t, t0_p, he_t0, g1, g2, g3, _⟩ := id h_t0_2
    obtain ⟨t0_A0, t0_c0, rfl, _⟩ := g1.shape
    obtain ⟨t0_A1, t0_c1, rfl, _⟩ := g2.shape
    obtain ⟨t0_A2, t0_c2, rfl, _⟩ := g3.shape
    subst he_t0
    clear g1 g2 g3
    go_wp2_with fail
    refine (HS.out (.agg #[.slice t0_A0 d.n t0_c0, .slice t0_A1 d.m t0_c1, .int .i64 d.c, .slice t0_A2 d.l t0_c2]) _ h_t0_2.trn).mono ?_
    rintro e w3 ⟨rfl, hb2⟩
    have hz2 := hb2.size
    have hW3 := up_trans hW2 hb2
    have k0_2 := up_keep hb1 k0_1
    have k0_3 := up_keep hb2 k0_2
    have k1_2 := up_keep hb1 k1_1
    have k1_3 := up_keep hb2 k1_2
    have k2_2 := up_keep hb1 k2_1
    have k2_3 := up_keep hb2 k2_2
    have k3_2 := up_keep hb1 k3_1
    have k3_3 := up_keep hb2 k3_2
    have h_a_2 := h_a_1.up hb1
    have h_a_3 := h_a_2.up hb2
    go_wp2_with fail
    refine (toTransition_g _ d _ h_a_3 (by omega) (by omega) (by omega)).mono ?_
    rintro e w4 ⟨x0, rfl, h_x0_4, hb3⟩
    have hz3 := hb3.size
    have hW4 := up_trans hW3 hb3
    obtain ⟨x0_f, x0_t, x0_p, he_x0, g1, g2, g3, _⟩ := id h_x0_4
    obtain ⟨x0_A0, x0_c0, rfl, _⟩ := g1.shape
    obtain ⟨x0_A1, x0_c1, rfl, _⟩ := g2.shape
    obtain ⟨x0_A2, x0_c2, rfl, _⟩ := g3.shape
    subst he_x0
    clear g1 g2 g3
    have k0_4 := up_keep hb3 k0_3
    have yy0 := up_keep (below_alloc w4 (.cells #[.slice x0_A0 d.n x0_c0, .slice x0_A1 d.m x0_c1, .int .i64 d.c, .slice x0_A2 d.l x0_c2] 32)) k0_4
    have k1_4 := up_keep hb3 k1_3
    have yy1 := up_keep (below_alloc w4 (.cells #[.slice x0_A0 d.n x0_c0, .slice x0_A1 d.m x0_c1, .int .i64 d.c, .slice x0_A2 d.l x0_c2] 32)) k1_4
    have k2_4 := up_keep hb3 k2_3
    have yy2 := up_keep (below_alloc w4 (.cells #[.slice x0_A0 d.n x0_c0, .slice x0_A1 d.m x0_c1, .int .i64 d.c, .slice x0_A2 d.l x0_c2] 32)) k2_4
    have k3_4 := up_keep hb3 k3_3
    have yy3 := up_keep (below_alloc w4 (.cells #[.slice x0_A0 d.n x0_c0, .slice x0_A1 d.m x0_c1, .int .i64 d.c, .slice x0_A2 d.l x0_c2] 32)) k3_4
    go_wp2_with fail
    clear yy0 yy1 yy2 yy3
    obtain ⟨w5, hW⟩ : ∃ W, W = World.alloc w4 (.cells #[.slice x0_A0 d.n x0_c0, .slice x0_A1 d.m x0_c1, .int .i64 d.c, .slice x0_A2 d.l x0_c2] 32) := ⟨_, rfl⟩
    rw [← hW]
    have hb4 : Below w4.heap.size w4 w5 := by rw [hW]; exact below_alloc _ _
    have hs4 : w4.heap.size < w5.heap.size := by rw [hW]; simp
    have bx0 : w5.cell? ⟨w4.heap.size, 0, none⟩ = some (.slice x0_A0 d.n x0_c0) := by rw [hW]; simp [go_sem]
    have bx1 : w5.cell? ⟨w4.heap.size, 1, none⟩ = some (.slice x0_A1 d.m x0_c1) := by rw [hW]; simp [go_sem]
    have bx2 : w5.cell? ⟨w4.heap.size, 2, none⟩ = some (.int .i64 d.c) := by rw [hW]; simp [go_sem]
    have bx3 : w5.cell? ⟨w4.heap.size, 3, none⟩ = some (.slice x0_A2 d.l x0_c2) := by rw [hW]; simp [go_sem]
    clear hW
    have hz4 := hb4.size
    have hW5 := up_trans hW4 hb4
    have h_x0_5 := h_x0_4.up hb4
    refine (HI.out (.agg #[.slice x0_A0 d.n x0_c0, .slice x0_A1 d.m x0_c1, .int .i64 d.c, .slice x0_A2 d.l x0_c2]) _ h_x0_5.trn).mono ?_
    rintro e w6 ⟨rfl, hb5⟩
    have hz5 := hb5.size
    have hW6 := up_trans hW5 hb5
    have k0_5 := up_keep hb4 k0_4
    have k0_6 := up_keep hb5 k0_5
    have k1_5 := up_keep hb4 k1_4
    have k1_6 := up_keep hb5 k1_5
    have k2_5 := up_keep hb4 k2_4
    have k2_6 := up_keep hb5 k2_5
    have k3_5 := up_keep hb4 k3_4
    have k3_6 := up_keep hb5 k3_5
    have bx0_6 := up_keep hb5 bx0
    have bx1_6 := up_keep hb5 bx1
    have bx2_6 := up_keep hb5 bx2
    have bx3_6 := up_keep hb5 bx3
    go_wp2_with fail
    have h_a_4 := h_a_3.up hb3
    have h_a_5 := h_a_4.up hb4
    have h_a_6 := h_a_5.up hb5
    have h_x0_6 := h_x0_5.up hb5
    go_region_held3 (fun w' => w'.cell? ⟨w.heap.size, 0, none⟩ = some (f) ∧ w'.cell? ⟨w.heap.size, 1, none⟩ = some (t) ∧ w'.cell? ⟨w.heap.size, 2, none⟩ = some (.int .i64 d.c) ∧ w'.cell? ⟨w.heap.size, 3, none⟩ = some (p) ∧ w'.cell? ⟨w4.heap.size, 0, none⟩ = some (.slice x0_A0 d.n x0_c0) ∧ w'.cell? ⟨w4.heap.size, 1, none⟩ = some (.slice x0_A1 d.m x0_c1) ∧ w'.cell? ⟨w4.heap.size, 2, none⟩ = some (.int .i64 d.c) ∧ w'.cell? ⟨w4.heap.size, 3, none⟩ = some (.slice x0_A2 d.l x0_c2)) (first | exact ⟨by assumption, by assumption, by assumption, by assumption, by assumption, by assumption, by assumption, by assumption⟩ | go_keep) (first | (go_at_call 17; refine (toTransition_g _ d _ (h_a_6.up (show Below w6.heap.size w6 _ from (by (repeat (first | with_reducible exact Below.refl _ _ | with_reducible assumption | with_reducible refine up_alloc ?_ _ | with_reducible refine up_drew ?_ | with_reducible refine up_drewN ?_ _ | (with_reducible refine up_set ?_ ?hset _; case hset => first | (simp; done) | (simp; omega) | omega) | with_reducible refine up_trans ?_ (by with_reducible assumption)))))) (by omega) (by omega) (by omega)).mono ?_; rintro e wt ⟨tt, rfl, hot, hbt⟩; have hk0 := up_keep (show Below w6.heap.size w6 wt from (by (repeat (first | with_reducible exact Below.refl _ _ | with_reducible assumption | with_reducible refine up_alloc ?_ _ | with_reducible refine up_drew ?_ | with_reducible refine up_drewN ?_ _ | (with_reducible refine up_set ?_ ?hset _; case hset => first | (simp; done) | (simp; omega) | omega) | with_reducible refine up_trans ?_ (by with_reducible assumption))))) k0_6; have hk1 := up_keep (show Below w6.heap.size w6 wt from (by (repeat (first | with_reducible exact Below.refl _ _ | with_reducible assumption | with_reducible refine up_alloc ?_ _ | with_reducible refine up_drew ?_ | with_reducible refine up_drewN ?_ _ | (with_reducible refine up_set ?_ ?hset _; case hset => first | (simp; done) | (simp; omega) | omega) | with_reducible refine up_trans ?_ (by with_reducible assumption))))) k1_6; have hk2 := up_keep (show Below w6.heap.size w6 wt from (by (repeat (first | with_reducible exact Below.refl _ _ | with_reducible assumption | with_reducible refine up_alloc ?_ _ | with_reducible refine up_drew ?_ | with_reducible refine up_drewN ?_ _ | (with_reducible refine up_set ?_ ?hset _; case hset => first | (simp; done) | (simp; omega) | omega) | with_reducible refine up_trans ?_ (by with_reducible assumption))))) k2_6; have hk3 := up_keep (show Below w6.heap.size w6 wt from (by (repeat (first | with_reducible exact Below.refl _ _ | with_reducible assumption | with_reducible refine up_alloc ?_ _ | with_reducible refine up_drew ?_ | with_reducible refine up_drewN ?_ _ | (with_reducible refine up_set ?_ ?hset _; case hset => first | (simp; done) | (simp; omega) | omega) | with_reducible refine up_trans ?_ (by with_reducible assumption))))) k3_6; have hk4 := up_keep (show Below w6.heap.size w6 wt from (by (repeat (first | with_reducible exact Below.refl _ _ | with_reducible assumption | with_reducible refine up_alloc ?_ _ | with_reducible refine up_drew ?_ | with_reducible refine up_drewN ?_ _ | (with_reducible refine up_set ?_ ?hset _; case hset => first | (simp; done) | (simp; omega) | omega) | with_reducible refine up_trans ?_ (by with_reducible assumption))))) bx0_6; have hk5 := up_keep (show Below w6.heap.size w6 wt from (by (repeat (first | with_reducible exact Below.refl _ _ | with_reducible assumption | with_reducible refine up_alloc ?_ _ | with_reducible refine up_drew ?_ | with_reducible refine up_drewN ?_ _ | (with_reducible refine up_set ?_ ?hset _; case hset => first | (simp; done) | (simp; omega) | omega) | with_reducible refine up_trans ?_ (by with_reducible assumption))))) bx1_6; have hk6 := up_keep (show Below w6.heap.size w6 wt from (by (repeat (first | with_reducible exact Below.refl _ _ | with_reducible assumption | with_reducible refine up_alloc ?_ _ | with_reducible refine up_drew ?_ | with_reducible refine up_drewN ?_ _ | (with_reducible refine up_set ?_ ?hset _; case hset => first | (simp; done) | (simp; omega) | omega) | with_reducible refine up_trans ?_ (by with_reducible assumption))))) bx2_6; have hk7 := up_keep (show Below w6.heap.size w6 wt from (by (repeat (first | with_reducible exact Below.refl _ _ | with_reducible assumption | with_reducible refine up_alloc ?_ _ | with_reducible refine up_drew ?_ | with_reducible refine up_drewN ?_ _ | (with_reducible refine up_set ?_ ?hset _; case hset => first | (simp; done) | (simp; omega) | omega) | with_reducible refine up_trans ?_ (by with_reducible assumption))))) bx3_6) | (go_at_call 20; refine (eqTransition_g _ tt d _ (h_x0_6.trn.up (show Below w6.heap.size w6 _ from (by (repeat (first | with_reducible exact Below.refl _ _ | with_reducible assumption | with_reducible refine up_alloc ?_ _ | with_reducible refine up_drew ?_ | with_reducible refine up_drewN ?_ _ | (with_reducible refine up_set ?_ ?hset _; case hset => first | (simp; done) | (simp; omega) | omega) | with_reducible refine up_trans ?_ (by with_reducible assumption)))))) (hot.trn.up (show Below wt.heap.size wt _ from (by (repeat (first | with_reducible exact Below.refl _ _ | with_reducible assumption | with_reducible refine up_alloc ?_ _ | with_reducible refine up_drew ?_ | with_reducible refine up_drewN ?_ _ | (with_reducible refine up_set ?_ ?hset _; case hset => first | (simp; done) | (simp; omega) | omega) | with_reducible refine up_trans ?_ (by with_reducible assumption)))))) (by omega) (by omega) (by omega)).mono ?_; rintro e w7 ⟨rfl, hbt2⟩; have hb6 := (show Below w6.heap.size w6 w7 from (by (repeat (first | with_reducible exact Below.refl _ _ | with_reducible assumption | with_reducible refine up_alloc ?_ _ | with_reducible refine up_drew ?_ | with_reducible refine up_drewN ?_ _ | (with_reducible refine up_set ?_ ?hset _; case hset => first | (simp; done) | (simp; omega) | omega) | with_reducible refine up_trans ?_ (by with_reducible assumption))))); have hk0 := up_keep (show Below w6.heap.size w6 w7 from (by (repeat (first | with_reducible exact Below.refl _ _ | with_reducible assumption | with_reducible refine up_alloc ?_ _ | with_reducible refine up_drew ?_ | with_reducible refine up_drewN ?_ _ | (with_reducible refine up_set ?_ ?hset _; case hset => first | (simp; done) | (simp; omega) | omega) | with_reducible refine up_trans ?_ (by with_reducible assumption))))) k0_6; have hk1 := up_keep (show Below w6.heap.size w6 w7 from (by (repeat (first | with_reducible exact Below.refl _ _ | with_reducible assumption | with_reducible refine up_alloc ?_ _ | with_reducible refine up_drew ?_ | with_reducible refine up_drewN ?_ _ | (with_reducible refine up_set ?_ ?hset _; case hset => first | (simp; done) | (simp; omega) | omega) | with_reducible refine up_trans ?_ (by with_reducible assumption))))) k1_6; have hk2 := up_keep (show Below w6.heap.size w6 w7 from (by (repeat (first | with_reducible exact Below.refl _ _ | with_reducible assumption | with_reducible refine up_alloc ?_ _ | with_reducible refine up_drew ?_ | with_reducible refine up_drewN ?_ _ | (with_reducible refine up_set ?_ ?hset _; case hset => first | (simp; done) | (simp; omega) | omega) | with_reducible refine up_trans ?_ (by with_reducible assumption))))) k2_6; have hk3 := up_keep (show Below w6.heap.size w6 w7 from (by (repeat (first | with_reducible exact Below.refl _ _ | with_reducible assumption | with_reducible refine up_alloc ?_ _ | with_reducible refine up_drew ?_ | with_reducible refine up_drewN ?_ _ | (with_reducible refine up_set ?_ ?hset _; case hset => first | (simp; done) | (simp; omega) | omega) | with_reducible refine up_trans ?_ (by with_reducible assumption))))) k3_6; have hk4 := up_keep (show Below w6.heap.size w6 w7 from (by (repeat (first | with_reducible exact Below.refl _ _ | with_reducible assumption | with_reducible refine up_alloc ?_ _ | with_reducible refine up_drew ?_ | with_reducible refine up_drewN ?_ _ | (with_reducible refine up_set ?_ ?hset _; case hset => first | (simp; done) | (simp; omega) | omega) | with_reducible refine up_trans ?_ (by with_reducible assumption))))) bx0_6; have hk5 := up_keep (show Below w6.heap.size w6 w7 from (by (repeat (first | with_reducible exact Below.refl _ _ | with_reducible assumption | with_reducible refine up_alloc ?_ _ | with_reducible refine up_drew ?_ | with_reducible refine up_drewN ?_ _ | (with_reducible refine up_set ?_ ?hset _; case hset => first | (simp; done) | (simp; omega) | omega) | with_reducible refine up_trans ?_ (by with_reducible assumption))))) bx1_6; have hk6 := up_keep (show Below w6.heap.size w6 w7 from (by (repeat (first | with_reducible exact Below.refl _ _ | with_reducible assumption | with_reducible refine up_alloc ?_ _ | with_reducible refine up_drew ?_ | with_reducible refine up_drewN ?_ _ | (with_reducible refine up_set ?_ ?hset _; case hset => first | (simp; done) | (simp; omega) | omega) | with_reducible refine up_trans ?_ (by with_reducible assumption))))) bx2_6; have hk7 := up_keep (show Below w6.heap.size w6 w7 from (by (repeat (first | with_reducible exact Below.refl _ _ | with_reducible assumption | with_reducible refine up_alloc ?_ _ | with_reducible refine up_drew ?_ | with_reducible refine up_drewN ?_ _ | (with_reducible refine up_set ?_ ?hset _; case hset => first | (simp; done) | (simp; omega) | omega) | with_reducible refine up_trans ?_ (by with_reducible assumption))))) bx3_6))
    all_goals
      have hz6 := hb6.size
      have hW7 := up_trans hW6 hb6
      go_wp2_with fail
      go_ret
      exact Ans.bool rfl (hbW.trans (hW7.mono hbW.size))
  · have HZ := szV_neg (left := 1048576) (n := d.n + d.m + d.l) (by omega)
    go_enter Try.func7, Try.ntmps7
    go_wp2_with fail
    refine (szTransition_g _ d _ _ (h.up (by (repeat (first | with_reducible exact Below.refl _ _ | with_reducible assumption | with_reducible refine up_alloc ?_ _ | with_reducible refine up_drew ?_ | with_reducible refine up_drewN ?_ _ | (with_reducible refine up_set ?_ ?hset _; case hset => first | (simp; done) | (simp; omega) | omega) | with_reducible refine up_trans ?_ (by with_reducible assumption))))) (by omega) (by omega) hn hm hl).mono ?_
    rintro e w1 ⟨rfl, hb0⟩
    go_wp2_with fail
    go_ret
    exact Ans.bool rfl (by (repeat (first | with_reducible exact Below.refl _ _ | with_reducible assumption | with_reducible refine up_alloc ?_ _ | with_reducible refine up_drew ?_ | with_reducible refine up_drewN ?_ _ | (with_reducible refine up_set ?_ ?hset _; case hset => first | (simp; done) | (simp; omega) | omega) | with_reducible refine up_trans ?_ (by with_reducible assumption))))

set_option maxRecDepth 100000 in
theorem fnExactBestSwap_law : LawWalk Try.prog 7 Try.f7 := by
  intro H enc W base args ds ps hval hA
  rw [Try.params7] at hval hA
  obtain ⟨v0, d0, rfl, rfl, h0⟩ := trodAll_one hA
  obtain ⟨D, hs, b1, b2, b3⟩ := open_trans (hval 0 _ v0 rfl rfl) h0
  exact fnExactBestSwap_walk v0 D  b1 b2 b3 W hs

set_option maxRecDepth 100000 in
set_option maxHeartbeats 4000000 in
theorem fnExactBestSwap_wit (os : Os) (H : Type) (enc : TypeId × Value → H) : ∃ (w : World) (tape : Tape) (i : Input), w.os = os ∧ (w.forCall tape i).Shaped Try.checked.prog ∧ i.vars = [] ∧ Input.okWide Try.checked.prog (w.forCall tape i) .any w.heap.size 7 i ∧
      Rows.fnExactBestSwapSpec.pre6 enc Try.checked.prog Try.f7 [] false (w.forCall tape i).memory i.args ∧ ({} : Assume).holds Try.checked.prog (lone (Frame.enter Try.checked.prog 7 i.args .normal) [] (w.forCall tape i)) :=
  ChangeSpec.witness6 (enc := enc) (C := Try.checked) false ⟨#[], #[.agg #[.slice none 0 0, .slice none 0 0, .int .i64 0, .slice none 0 0]], []⟩ 8 (by kernel_rfl) (by kernel_rfl) (by kernel_rfl) (by kernel_rfl)

set_option maxRecDepth 100000 in
set_option maxHeartbeats 4000000 in
theorem fnExactBestSwap_row (os : Os) (started : os.Started) (H : Type) (enc : TypeId × Value → H) :
    ReturnsInHanded {} Try.checked os 7 .any (Rows.fnExactBestSwapSpec.pre6 enc Try.checked.prog Try.f7 [] false) (Rows.fnExactBestSwapSpec.post enc Try.checked.prog Try.f7 false true false false) :=
  lifted_of (C := Try.checked) (s := Rows.fnExactBestSwapSpec) (tb := 4) (by kernel_rfl) (by kernel_rfl) (by kernel_rfl) (by kernel_rfl) Try.func7 rfl Try.underlying4 rfl
      (fun H ds h => by
        have h2 : ds.length = 1 := by rw [Try.params7] at h; exact h
        match ds, h2 with
        | [_], _ => rfl)
      fnExactBestSwap_law os started H enc (fnExactBestSwap_wit os H enc)

set_option maxRecDepth 100000 in
set_option maxHeartbeats 4000000 in
theorem fnExactBestSwap_holds : Rows.FnExactBestSwapSaid :=
  OpenClaim.holds_of_wide 7 Try.f7 rfl rfl rfl rfl rfl rfl rfl ⟨rfl, rfl, rfl, rfl, rfl⟩ rfl rfl rfl rfl rfl (by kernel_rfl) Try.func7 (by kernel_rfl)
    (of_decide_eq_true (by kernel_rfl)) (by unfold Func.isWrapper; first | (rw [if_pos (by decide +kernel)]; kernel_rfl) | (rw [if_neg (by decide +kernel)]; exact ⟨rfl, rfl⟩))
    (fun os started H enc _ => fnExactBestSwap_row os started H enc)

#print axioms fnExactBestSwap_holds
end Go.Proofs.Ytkmnkodgmngaeaa
