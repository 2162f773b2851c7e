/-
  FnExactSwapPlaces: for all arguments the law returns true, and its arguments read afterwards as before. No condition.
-/
import Derived.Test.YtkmnkodgmngaeaaRows
import Derived.Test.YtkmnkodgmngaeaaBase
import Derived.Test.YtkmnkodgmngaeaaSpot
import Derived.Test.YtkmnkodgmngaeaaSlice
import Derived.Test.YtkmnkodgmngaeaaChart
import Derived.Test.YtkmnkodgmngaeaaLawS
import Derived.Test.YtkmnkodgmngaeaaMark
import Derived.Test.YtkmnkodgmngaeaaOpen
import Derived.Test.YtkmnkodgmngaeaaTrod
import Derived.Test.YtkmnkodgmngaeaaInts
import Derived.Test.YtkmnkodgmngaeaaIntsL
import Derived.Test.YtkmnkodgmngaeaaTurned
import Derived.Test.YtkmnkodgmngaeaaTrans
import Derived.Test.YtkmnkodgmngaeaaOpenT
import Derived.Test.YtkmnkodgmngaeaaAppend
import Derived.Test.YtkmnkodgmngaeaaAppendE
import Derived.Test.YtkmnkodgmngaeaaForm
import Derived.Test.YtkmnkodgmngaeaaMatch
import Derived.Test.YtkmnkodgmngaeaaChanged
import Derived.Test.YtkmnkodgmngaeaaIsTrans
import Derived.Test.YtkmnkodgmngaeaaCopyI
import Derived.Test.YtkmnkodgmngaeaaNewT
import Derived.Test.YtkmnkodgmngaeaaMoves
import Derived.Test.YtkmnkodgmngaeaaAppendM
import Derived.Test.YtkmnkodgmngaeaaMovesOf
import Derived.Test.YtkmnkodgmngaeaaSwapT
import Derived.Test.YtkmnkodgmngaeaaSwapP
import Derived.Deep.RegionHeld3

namespace Go.Proofs.Ytkmnkodgmngaeaa
open Go.RowKit Go.ChangeShapes Go.WideShapes Go.Sort

set_option maxRecDepth 100000 in
set_option maxHeartbeats 8000000 in
theorem fnExactSwapPlaces_walk (v : Value) (d : TrD) (i j : Int) (hn : d.n ≤ 9223372036854775807) (hm : d.m ≤ 9223372036854775807) (hl : d.l ≤ 9223372036854775807) (w : World) (h : Trn w v d) :
    Calls Try.prog 9 #[v, .int .i64 i, .int .i64 j] w (Ans w (.bool true)) := by
  obtain ⟨f, t, p, hv, hf, ht, hp⟩ := id h
  subst hv
  clear hf ht hp
  by_cases hle : d.n + d.m + d.l ≤ 1048576
  · have HZ := szV_pos (left := 1048576) (n := d.n + d.m + d.l) (by omega)
    have HS := Lib.hid (fun v w' (hw : Trn w' v d) => sSwapPlaces_g v d i j w' hw (by omega) (by omega) (by omega))
    have HI := Lib.hid (fun v w' (hw : Trn w' v d) => iSwapPlaces_g v d i j w' hw (by omega) (by omega) (by omega))
    have hD := spD_le d i j
    generalize spD d i j = D at *
    generalize spB d i j = q at *
    obtain ⟨hD1, hD2, hD3⟩ := hD
    have eq1 : (q != q) = false := by simp
    go_enter Try.func9, Try.ntmps9
    go_wp2_with fail
    generalize hW : World.alloc _ _ = W at *
    have hbW : Below w.heap.size w W := by subst hW; (repeat (first | with_reducible exact Below.refl _ _ | with_reducible assumption | with_reducible refine up_alloc ?_ _ | with_reducible refine up_drew ?_ | with_reducible refine up_drewN ?_ _ | (with_reducible refine up_set ?_ ?hset _; case hset => first | (simp; done) | (simp; omega) | omega) | with_reducible refine up_trans ?_ (by with_reducible assumption)))
    have k0 : W.cell? ⟨w.heap.size, 0, none⟩ = some f := by subst hW; simp [go_sem]
    have k1 : W.cell? ⟨w.heap.size, 1, none⟩ = some t := by subst hW; simp [go_sem]
    have k2 : W.cell? ⟨w.heap.size, 2, none⟩ = some (.int .i64 d.c) := by subst hW; simp [go_sem]
    have k3 : W.cell? ⟨w.heap.size, 3, none⟩ = some p := by subst hW; simp [go_sem]
    clear hW
    have hT := h.up hbW
    have hs00 : w.heap.size < W.heap.size := lt_of_cell k0
    have hW0 := Below.refl W.heap.size W
    refine (szTransition_g _ d _ _ hT (by omega) (by omega) hn hm hl).mono ?_
    rintro e w1 ⟨rfl, hb0⟩
    have hz0 := hb0.size
    have hW1 := up_trans hW0 hb0
    have k0_1 := up_keep hb0 k0
    have k1_1 := up_keep hb0 k1
    have k2_1 := up_keep hb0 k2
    have k3_1 := up_keep hb0 k3
    have h_a_1 := hT.up hb0
    go_wp2_with fail
    refine (toTransition_g _ d _ h_a_1 (by omega) (by omega) (by omega)).mono ?_
    rintro e w2 ⟨t0, rfl, h_t0_2, hb1⟩
    have hz1 := hb1.size
    have hW2 := up_trans hW1 hb1
    obtain ⟨t0_f, t0_t, t0_p, he_t0, g1, g2, g3, _⟩ := id h_t0_2
    obtain ⟨t0_A0, t0_c0, rfl, _⟩ := g1.shape
    obtain ⟨t0_A1, t0_c1, rfl, _⟩ := g2.shape
    obtain ⟨t0_A2, t0_c2, rfl, _⟩ := g3.shape
    subst he_t0
    clear g1 g2 g3
    go_wp2_with fail
    refine (HS.out (.agg #[.slice t0_A0 d.n t0_c0, .slice t0_A1 d.m t0_c1, .int .i64 d.c, .slice t0_A2 d.l t0_c2]) _ h_t0_2.trn).mono ?_
    rintro e w3 ⟨rS, rfl, h_rS_3, hb2⟩
    have hz2 := hb2.size
    have hW3 := up_trans hW2 hb2
    obtain ⟨rS_f, rS_t, rS_p, he_rS, g1, g2, g3, _⟩ := id h_rS_3
    obtain ⟨rS_A0, rS_c0, rfl, _⟩ := g1.shape
    obtain ⟨rS_A1, rS_c1, rfl, _⟩ := g2.shape
    obtain ⟨rS_A2, rS_c2, rfl, _⟩ := g3.shape
    subst he_rS
    clear g1 g2 g3
    have k0_2 := up_keep hb1 k0_1
    have k0_3 := up_keep hb2 k0_2
    have yy0 := up_keep (below_alloc w3 (.cells #[.slice rS_A0 D.n rS_c0, .slice rS_A1 D.m rS_c1, .int .i64 D.c, .slice rS_A2 D.l rS_c2] 32)) k0_3
    have k1_2 := up_keep hb1 k1_1
    have k1_3 := up_keep hb2 k1_2
    have yy1 := up_keep (below_alloc w3 (.cells #[.slice rS_A0 D.n rS_c0, .slice rS_A1 D.m rS_c1, .int .i64 D.c, .slice rS_A2 D.l rS_c2] 32)) k1_3
    have k2_2 := up_keep hb1 k2_1
    have k2_3 := up_keep hb2 k2_2
    have yy2 := up_keep (below_alloc w3 (.cells #[.slice rS_A0 D.n rS_c0, .slice rS_A1 D.m rS_c1, .int .i64 D.c, .slice rS_A2 D.l rS_c2] 32)) k2_3
    have k3_2 := up_keep hb1 k3_1
    have k3_3 := up_keep hb2 k3_2
    have yy3 := up_keep (below_alloc w3 (.cells #[.slice rS_A0 D.n rS_c0, .slice rS_A1 D.m rS_c1, .int .i64 D.c, .slice rS_A2 D.l rS_c2] 32)) k3_3
    go_wp2_with fail
    clear yy0 yy1 yy2 yy3
    obtain ⟨w4, hW⟩ : ∃ W, W = World.alloc w3 (.cells #[.slice rS_A0 D.n rS_c0, .slice rS_A1 D.m rS_c1, .int .i64 D.c, .slice rS_A2 D.l rS_c2] 32) := ⟨_, rfl⟩
    rw [← hW]
    have hb3 : Below w3.heap.size w3 w4 := by rw [hW]; exact below_alloc _ _
    have hs3 : w3.heap.size < w4.heap.size := by rw [hW]; simp
    have bw0 : w4.cell? ⟨w3.heap.size, 0, none⟩ = some (.slice rS_A0 D.n rS_c0) := by rw [hW]; simp [go_sem]
    have bw1 : w4.cell? ⟨w3.heap.size, 1, none⟩ = some (.slice rS_A1 D.m rS_c1) := by rw [hW]; simp [go_sem]
    have bw2 : w4.cell? ⟨w3.heap.size, 2, none⟩ = some (.int .i64 D.c) := by rw [hW]; simp [go_sem]
    have bw3 : w4.cell? ⟨w3.heap.size, 3, none⟩ = some (.slice rS_A2 D.l rS_c2) := by rw [hW]; simp [go_sem]
    clear hW
    have hz3 := hb3.size
    have hW4 := up_trans hW3 hb3
    have k0_4 := up_keep hb3 k0_3
    have k1_4 := up_keep hb3 k1_3
    have k2_4 := up_keep hb3 k2_3
    have k3_4 := up_keep hb3 k3_3
    have h_a_2 := h_a_1.up hb1
    have h_a_3 := h_a_2.up hb2
    have h_a_4 := h_a_3.up hb3
    refine (toTransition_g _ d _ h_a_4 (by omega) (by omega) (by omega)).mono ?_
    rintro e w5 ⟨x0, rfl, h_x0_5, hb4⟩
    have hz4 := hb4.size
    have hW5 := up_trans hW4 hb4
    obtain ⟨x0_f, x0_t, x0_p, he_x0, g1, g2, g3, _⟩ := id h_x0_5
    obtain ⟨x0_A0, x0_c0, rfl, _⟩ := g1.shape
    obtain ⟨x0_A1, x0_c1, rfl, _⟩ := g2.shape
    obtain ⟨x0_A2, x0_c2, rfl, _⟩ := g3.shape
    subst he_x0
    clear g1 g2 g3
    have k0_5 := up_keep hb4 k0_4
    have yy0 := up_keep (below_alloc w5 (.cells #[.slice x0_A0 d.n x0_c0, .slice x0_A1 d.m x0_c1, .int .i64 d.c, .slice x0_A2 d.l x0_c2] 32)) k0_5
    have k1_5 := up_keep hb4 k1_4
    have yy1 := up_keep (below_alloc w5 (.cells #[.slice x0_A0 d.n x0_c0, .slice x0_A1 d.m x0_c1, .int .i64 d.c, .slice x0_A2 d.l x0_c2] 32)) k1_5
    have k2_5 := up_keep hb4 k2_4
    have yy2 := up_keep (below_alloc w5 (.cells #[.slice x0_A0 d.n x0_c0, .slice x0_A1 d.m x0_c1, .int .i64 d.c, .slice x0_A2 d.l x0_c2] 32)) k2_5
    have k3_5 := up_keep hb4 k3_4
    have yy3 := up_keep (below_alloc w5 (.cells #[.slice x0_A0 d.n x0_c0, .slice x0_A1 d.m x0_c1, .int .i64 d.c, .slice x0_A2 d.l x0_c2] 32)) k3_5
    have bw0_5 := up_keep hb4 bw0
    have yy4 := up_keep (below_alloc w5 (.cells #[.slice x0_A0 d.n x0_c0, .slice x0_A1 d.m x0_c1, .int .i64 d.c, .slice x0_A2 d.l x0_c2] 32)) bw0_5
    have bw1_5 := up_keep hb4 bw1
    have yy5 := up_keep (below_alloc w5 (.cells #[.slice x0_A0 d.n x0_c0, .slice x0_A1 d.m x0_c1, .int .i64 d.c, .slice x0_A2 d.l x0_c2] 32)) bw1_5
    have bw2_5 := up_keep hb4 bw2
    have yy6 := up_keep (below_alloc w5 (.cells #[.slice x0_A0 d.n x0_c0, .slice x0_A1 d.m x0_c1, .int .i64 d.c, .slice x0_A2 d.l x0_c2] 32)) bw2_5
    have bw3_5 := up_keep hb4 bw3
    have yy7 := up_keep (below_alloc w5 (.cells #[.slice x0_A0 d.n x0_c0, .slice x0_A1 d.m x0_c1, .int .i64 d.c, .slice x0_A2 d.l x0_c2] 32)) bw3_5
    go_wp2_with fail
    clear yy0 yy1 yy2 yy3 yy4 yy5 yy6 yy7
    obtain ⟨w6, hW⟩ : ∃ W, W = World.alloc w5 (.cells #[.slice x0_A0 d.n x0_c0, .slice x0_A1 d.m x0_c1, .int .i64 d.c, .slice x0_A2 d.l x0_c2] 32) := ⟨_, rfl⟩
    rw [← hW]
    have hb5 : Below w5.heap.size w5 w6 := by rw [hW]; exact below_alloc _ _
    have hs5 : w5.heap.size < w6.heap.size := by rw [hW]; simp
    have bx0 : w6.cell? ⟨w5.heap.size, 0, none⟩ = some (.slice x0_A0 d.n x0_c0) := by rw [hW]; simp [go_sem]
    have bx1 : w6.cell? ⟨w5.heap.size, 1, none⟩ = some (.slice x0_A1 d.m x0_c1) := by rw [hW]; simp [go_sem]
    have bx2 : w6.cell? ⟨w5.heap.size, 2, none⟩ = some (.int .i64 d.c) := by rw [hW]; simp [go_sem]
    have bx3 : w6.cell? ⟨w5.heap.size, 3, none⟩ = some (.slice x0_A2 d.l x0_c2) := by rw [hW]; simp [go_sem]
    clear hW
    have hz5 := hb5.size
    have hW6 := up_trans hW5 hb5
    have h_x0_6 := h_x0_5.up hb5
    refine (HI.out (.agg #[.slice x0_A0 d.n x0_c0, .slice x0_A1 d.m x0_c1, .int .i64 d.c, .slice x0_A2 d.l x0_c2]) _ h_x0_6.trn).mono ?_
    rintro e w7 ⟨rI, rfl, h_rI_7, hb6⟩
    have hz6 := hb6.size
    have hW7 := up_trans hW6 hb6
    obtain ⟨rI_f, rI_t, rI_p, he_rI, g1, g2, g3, _⟩ := id h_rI_7
    obtain ⟨rI_A0, rI_c0, rfl, _⟩ := g1.shape
    obtain ⟨rI_A1, rI_c1, rfl, _⟩ := g2.shape
    obtain ⟨rI_A2, rI_c2, rfl, _⟩ := g3.shape
    subst he_rI
    clear g1 g2 g3
    have k0_6 := up_keep hb5 k0_5
    have k0_7 := up_keep hb6 k0_6
    have yy0 := up_keep (below_alloc w7 (.cells #[.slice rI_A0 D.n rI_c0, .slice rI_A1 D.m rI_c1, .int .i64 D.c, .slice rI_A2 D.l rI_c2] 32)) k0_7
    have k1_6 := up_keep hb5 k1_5
    have k1_7 := up_keep hb6 k1_6
    have yy1 := up_keep (below_alloc w7 (.cells #[.slice rI_A0 D.n rI_c0, .slice rI_A1 D.m rI_c1, .int .i64 D.c, .slice rI_A2 D.l rI_c2] 32)) k1_7
    have k2_6 := up_keep hb5 k2_5
    have k2_7 := up_keep hb6 k2_6
    have yy2 := up_keep (below_alloc w7 (.cells #[.slice rI_A0 D.n rI_c0, .slice rI_A1 D.m rI_c1, .int .i64 D.c, .slice rI_A2 D.l rI_c2] 32)) k2_7
    have k3_6 := up_keep hb5 k3_5
    have k3_7 := up_keep hb6 k3_6
    have yy3 := up_keep (below_alloc w7 (.cells #[.slice rI_A0 D.n rI_c0, .slice rI_A1 D.m rI_c1, .int .i64 D.c, .slice rI_A2 D.l rI_c2] 32)) k3_7
    have bw0_6 := up_keep hb5 bw0_5
    have bw0_7 := up_keep hb6 bw0_6
    have yy4 := up_keep (below_alloc w7 (.cells #[.slice rI_A0 D.n rI_c0, .slice rI_A1 D.m rI_c1, .int .i64 D.c, .slice rI_A2 D.l rI_c2] 32)) bw0_7
    have bw1_6 := up_keep hb5 bw1_5
    have bw1_7 := up_keep hb6 bw1_6
    have yy5 := up_keep (below_alloc w7 (.cells #[.slice rI_A0 D.n rI_c0, .slice rI_A1 D.m rI_c1, .int .i64 D.c, .slice rI_A2 D.l rI_c2] 32)) bw1_7
    have bw2_6 := up_keep hb5 bw2_5
    have bw2_7 := up_keep hb6 bw2_6
    have yy6 := up_keep (below_alloc w7 (.cells #[.slice rI_A0 D.n rI_c0, .slice rI_A1 D.m rI_c1, .int .i64 D.c, .slice rI_A2 D.l rI_c2] 32)) bw2_7
    have bw3_6 := up_keep hb5 bw3_5
    have bw3_7 := up_keep hb6 bw3_6
    have yy7 := up_keep (below_alloc w7 (.cells #[.slice rI_A0 D.n rI_c0, .slice rI_A1 D.m rI_c1, .int .i64 D.c, .slice rI_A2 D.l rI_c2] 32)) bw3_7
    have bx0_7 := up_keep hb6 bx0
    have yy8 := up_keep (below_alloc w7 (.cells #[.slice rI_A0 D.n rI_c0, .slice rI_A1 D.m rI_c1, .int .i64 D.c, .slice rI_A2 D.l rI_c2] 32)) bx0_7
    have bx1_7 := up_keep hb6 bx1
    have yy9 := up_keep (below_alloc w7 (.cells #[.slice rI_A0 D.n rI_c0, .slice rI_A1 D.m rI_c1, .int .i64 D.c, .slice rI_A2 D.l rI_c2] 32)) bx1_7
    have bx2_7 := up_keep hb6 bx2
    have yy10 := up_keep (below_alloc w7 (.cells #[.slice rI_A0 D.n rI_c0, .slice rI_A1 D.m rI_c1, .int .i64 D.c, .slice rI_A2 D.l rI_c2] 32)) bx2_7
    have bx3_7 := up_keep hb6 bx3
    have yy11 := up_keep (below_alloc w7 (.cells #[.slice rI_A0 D.n rI_c0, .slice rI_A1 D.m rI_c1, .int .i64 D.c, .slice rI_A2 D.l rI_c2] 32)) bx3_7
    go_wp2_with fail
    clear yy0 yy1 yy2 yy3 yy4 yy5 yy6 yy7 yy8 yy9 yy10 yy11
    obtain ⟨w8, hW⟩ : ∃ W, W = World.alloc w7 (.cells #[.slice rI_A0 D.n rI_c0, .slice rI_A1 D.m rI_c1, .int .i64 D.c, .slice rI_A2 D.l rI_c2] 32) := ⟨_, rfl⟩
    rw [← hW]
    have hb7 : Below w7.heap.size w7 w8 := by rw [hW]; exact below_alloc _ _
    have hs7 : w7.heap.size < w8.heap.size := by rw [hW]; simp
    have bg0 : w8.cell? ⟨w7.heap.size, 0, none⟩ = some (.slice rI_A0 D.n rI_c0) := by rw [hW]; simp [go_sem]
    have bg1 : w8.cell? ⟨w7.heap.size, 1, none⟩ = some (.slice rI_A1 D.m rI_c1) := by rw [hW]; simp [go_sem]
    have bg2 : w8.cell? ⟨w7.heap.size, 2, none⟩ = some (.int .i64 D.c) := by rw [hW]; simp [go_sem]
    have bg3 : w8.cell? ⟨w7.heap.size, 3, none⟩ = some (.slice rI_A2 D.l rI_c2) := by rw [hW]; simp [go_sem]
    clear hW
    have hz7 := hb7.size
    have hW8 := up_trans hW7 hb7
    have k0_8 := up_keep hb7 k0_7
    have k1_8 := up_keep hb7 k1_7
    have k2_8 := up_keep hb7 k2_7
    have k3_8 := up_keep hb7 k3_7
    have bw0_8 := up_keep hb7 bw0_7
    have bw1_8 := up_keep hb7 bw1_7
    have bw2_8 := up_keep hb7 bw2_7
    have bw3_8 := up_keep hb7 bw3_7
    have bx0_8 := up_keep hb7 bx0_7
    have bx1_8 := up_keep hb7 bx1_7
    have bx2_8 := up_keep hb7 bx2_7
    have bx3_8 := up_keep hb7 bx3_7
    have h_rI_8 := h_rI_7.up hb7
    have h_rS_4 := h_rS_3.up hb3
    have h_rS_5 := h_rS_4.up hb4
    have h_rS_6 := h_rS_5.up hb5
    have h_rS_7 := h_rS_6.up hb6
    have h_rS_8 := h_rS_7.up hb7
    refine (eqTransition_g (.agg #[.slice rI_A0 D.n rI_c0, .slice rI_A1 D.m rI_c1, .int .i64 D.c, .slice rI_A2 D.l rI_c2]) (.agg #[.slice rS_A0 D.n rS_c0, .slice rS_A1 D.m rS_c1, .int .i64 D.c, .slice rS_A2 D.l rS_c2]) _ _ h_rI_8.trn h_rS_8.trn (by omega) (by omega) (by omega)).mono ?_
    rintro e w9 ⟨rfl, hb8⟩
    have hz8 := hb8.size
    have hW9 := up_trans hW8 hb8
    have k0_9 := up_keep hb8 k0_8
    have k1_9 := up_keep hb8 k1_8
    have k2_9 := up_keep hb8 k2_8
    have k3_9 := up_keep hb8 k3_8
    have bw0_9 := up_keep hb8 bw0_8
    have bw1_9 := up_keep hb8 bw1_8
    have bw2_9 := up_keep hb8 bw2_8
    have bw3_9 := up_keep hb8 bw3_8
    have bx0_9 := up_keep hb8 bx0_8
    have bx1_9 := up_keep hb8 bx1_8
    have bx2_9 := up_keep hb8 bx2_8
    have bx3_9 := up_keep hb8 bx3_8
    have bg0_9 := up_keep hb8 bg0
    have bg1_9 := up_keep hb8 bg1
    have bg2_9 := up_keep hb8 bg2
    have bg3_9 := up_keep hb8 bg3
    go_wp2_with fail
    have h_a_5 := h_a_4.up hb4
    have h_a_6 := h_a_5.up hb5
    have h_a_7 := h_a_6.up hb6
    have h_a_8 := h_a_7.up hb7
    have h_a_9 := h_a_8.up hb8
    have h_x0_7 := h_x0_6.up hb6
    have h_x0_8 := h_x0_7.up hb7
    have h_x0_9 := h_x0_8.up hb8
    go_region_held3 (fun w' => w'.cell? ⟨w.heap.size, 0, none⟩ = some (f) ∧ w'.cell? ⟨w.heap.size, 1, none⟩ = some (t) ∧ w'.cell? ⟨w.heap.size, 2, none⟩ = some (.int .i64 d.c) ∧ w'.cell? ⟨w.heap.size, 3, none⟩ = some (p) ∧ w'.cell? ⟨w5.heap.size, 0, none⟩ = some (.slice x0_A0 d.n x0_c0) ∧ w'.cell? ⟨w5.heap.size, 1, none⟩ = some (.slice x0_A1 d.m x0_c1) ∧ w'.cell? ⟨w5.heap.size, 2, none⟩ = some (.int .i64 d.c) ∧ w'.cell? ⟨w5.heap.size, 3, none⟩ = some (.slice x0_A2 d.l x0_c2)) (first | exact ⟨by assumption, by assumption, by assumption, by assumption, by assumption, by assumption, by assumption, by assumption⟩ | go_keep) (first | (go_at_call 17; refine (toTransition_g _ d _ (h_a_9.up (show Below w9.heap.size w9 _ from (by (repeat (first | with_reducible exact Below.refl _ _ | with_reducible assumption | with_reducible refine up_alloc ?_ _ | with_reducible refine up_drew ?_ | with_reducible refine up_drewN ?_ _ | (with_reducible refine up_set ?_ ?hset _; case hset => first | (simp; done) | (simp; omega) | omega) | with_reducible refine up_trans ?_ (by with_reducible assumption)))))) (by omega) (by omega) (by omega)).mono ?_; rintro e wt ⟨tt, rfl, hot, hbt⟩; have hk0 := up_keep (show Below w9.heap.size w9 wt from (by (repeat (first | with_reducible exact Below.refl _ _ | with_reducible assumption | with_reducible refine up_alloc ?_ _ | with_reducible refine up_drew ?_ | with_reducible refine up_drewN ?_ _ | (with_reducible refine up_set ?_ ?hset _; case hset => first | (simp; done) | (simp; omega) | omega) | with_reducible refine up_trans ?_ (by with_reducible assumption))))) k0_9; have hk1 := up_keep (show Below w9.heap.size w9 wt from (by (repeat (first | with_reducible exact Below.refl _ _ | with_reducible assumption | with_reducible refine up_alloc ?_ _ | with_reducible refine up_drew ?_ | with_reducible refine up_drewN ?_ _ | (with_reducible refine up_set ?_ ?hset _; case hset => first | (simp; done) | (simp; omega) | omega) | with_reducible refine up_trans ?_ (by with_reducible assumption))))) k1_9; have hk2 := up_keep (show Below w9.heap.size w9 wt from (by (repeat (first | with_reducible exact Below.refl _ _ | with_reducible assumption | with_reducible refine up_alloc ?_ _ | with_reducible refine up_drew ?_ | with_reducible refine up_drewN ?_ _ | (with_reducible refine up_set ?_ ?hset _; case hset => first | (simp; done) | (simp; omega) | omega) | with_reducible refine up_trans ?_ (by with_reducible assumption))))) k2_9; have hk3 := up_keep (show Below w9.heap.size w9 wt from (by (repeat (first | with_reducible exact Below.refl _ _ | with_reducible assumption | with_reducible refine up_alloc ?_ _ | with_reducible refine up_drew ?_ | with_reducible refine up_drewN ?_ _ | (with_reducible refine up_set ?_ ?hset _; case hset => first | (simp; done) | (simp; omega) | omega) | with_reducible refine up_trans ?_ (by with_reducible assumption))))) k3_9; have hk4 := up_keep (show Below w9.heap.size w9 wt from (by (repeat (first | with_reducible exact Below.refl _ _ | with_reducible assumption | with_reducible refine up_alloc ?_ _ | with_reducible refine up_drew ?_ | with_reducible refine up_drewN ?_ _ | (with_reducible refine up_set ?_ ?hset _; case hset => first | (simp; done) | (simp; omega) | omega) | with_reducible refine up_trans ?_ (by with_reducible assumption))))) bx0_9; have hk5 := up_keep (show Below w9.heap.size w9 wt from (by (repeat (first | with_reducible exact Below.refl _ _ | with_reducible assumption | with_reducible refine up_alloc ?_ _ | with_reducible refine up_drew ?_ | with_reducible refine up_drewN ?_ _ | (with_reducible refine up_set ?_ ?hset _; case hset => first | (simp; done) | (simp; omega) | omega) | with_reducible refine up_trans ?_ (by with_reducible assumption))))) bx1_9; have hk6 := up_keep (show Below w9.heap.size w9 wt from (by (repeat (first | with_reducible exact Below.refl _ _ | with_reducible assumption | with_reducible refine up_alloc ?_ _ | with_reducible refine up_drew ?_ | with_reducible refine up_drewN ?_ _ | (with_reducible refine up_set ?_ ?hset _; case hset => first | (simp; done) | (simp; omega) | omega) | with_reducible refine up_trans ?_ (by with_reducible assumption))))) bx2_9; have hk7 := up_keep (show Below w9.heap.size w9 wt from (by (repeat (first | with_reducible exact Below.refl _ _ | with_reducible assumption | with_reducible refine up_alloc ?_ _ | with_reducible refine up_drew ?_ | with_reducible refine up_drewN ?_ _ | (with_reducible refine up_set ?_ ?hset _; case hset => first | (simp; done) | (simp; omega) | omega) | with_reducible refine up_trans ?_ (by with_reducible assumption))))) bx3_9) | (go_at_call 20; refine (eqTransition_g _ tt d _ (h_x0_9.trn.up (show Below w9.heap.size w9 _ from (by (repeat (first | with_reducible exact Below.refl _ _ | with_reducible assumption | with_reducible refine up_alloc ?_ _ | with_reducible refine up_drew ?_ | with_reducible refine up_drewN ?_ _ | (with_reducible refine up_set ?_ ?hset _; case hset => first | (simp; done) | (simp; omega) | omega) | with_reducible refine up_trans ?_ (by with_reducible assumption)))))) (hot.trn.up (show Below wt.heap.size wt _ from (by (repeat (first | with_reducible exact Below.refl _ _ | with_reducible assumption | with_reducible refine up_alloc ?_ _ | with_reducible refine up_drew ?_ | with_reducible refine up_drewN ?_ _ | (with_reducible refine up_set ?_ ?hset _; case hset => first | (simp; done) | (simp; omega) | omega) | with_reducible refine up_trans ?_ (by with_reducible assumption)))))) (by omega) (by omega) (by omega)).mono ?_; rintro e w10 ⟨rfl, hbt2⟩; have hb9 := (show Below w9.heap.size w9 w10 from (by (repeat (first | with_reducible exact Below.refl _ _ | with_reducible assumption | with_reducible refine up_alloc ?_ _ | with_reducible refine up_drew ?_ | with_reducible refine up_drewN ?_ _ | (with_reducible refine up_set ?_ ?hset _; case hset => first | (simp; done) | (simp; omega) | omega) | with_reducible refine up_trans ?_ (by with_reducible assumption))))); have hk0 := up_keep (show Below w9.heap.size w9 w10 from (by (repeat (first | with_reducible exact Below.refl _ _ | with_reducible assumption | with_reducible refine up_alloc ?_ _ | with_reducible refine up_drew ?_ | with_reducible refine up_drewN ?_ _ | (with_reducible refine up_set ?_ ?hset _; case hset => first | (simp; done) | (simp; omega) | omega) | with_reducible refine up_trans ?_ (by with_reducible assumption))))) k0_9; have hk1 := up_keep (show Below w9.heap.size w9 w10 from (by (repeat (first | with_reducible exact Below.refl _ _ | with_reducible assumption | with_reducible refine up_alloc ?_ _ | with_reducible refine up_drew ?_ | with_reducible refine up_drewN ?_ _ | (with_reducible refine up_set ?_ ?hset _; case hset => first | (simp; done) | (simp; omega) | omega) | with_reducible refine up_trans ?_ (by with_reducible assumption))))) k1_9; have hk2 := up_keep (show Below w9.heap.size w9 w10 from (by (repeat (first | with_reducible exact Below.refl _ _ | with_reducible assumption | with_reducible refine up_alloc ?_ _ | with_reducible refine up_drew ?_ | with_reducible refine up_drewN ?_ _ | (with_reducible refine up_set ?_ ?hset _; case hset => first | (simp; done) | (simp; omega) | omega) | with_reducible refine up_trans ?_ (by with_reducible assumption))))) k2_9; have hk3 := up_keep (show Below w9.heap.size w9 w10 from (by (repeat (first | with_reducible exact Below.refl _ _ | with_reducible assumption | with_reducible refine up_alloc ?_ _ | with_reducible refine up_drew ?_ | with_reducible refine up_drewN ?_ _ | (with_reducible refine up_set ?_ ?hset _; case hset => first | (simp; done) | (simp; omega) | omega) | with_reducible refine up_trans ?_ (by with_reducible assumption))))) k3_9; have hk4 := up_keep (show Below w9.heap.size w9 w10 from (by (repeat (first | with_reducible exact Below.refl _ _ | with_reducible assumption | with_reducible refine up_alloc ?_ _ | with_reducible refine up_drew ?_ | with_reducible refine up_drewN ?_ _ | (with_reducible refine up_set ?_ ?hset _; case hset => first | (simp; done) | (simp; omega) | omega) | with_reducible refine up_trans ?_ (by with_reducible assumption))))) bx0_9; have hk5 := up_keep (show Below w9.heap.size w9 w10 from (by (repeat (first | with_reducible exact Below.refl _ _ | with_reducible assumption | with_reducible refine up_alloc ?_ _ | with_reducible refine up_drew ?_ | with_reducible refine up_drewN ?_ _ | (with_reducible refine up_set ?_ ?hset _; case hset => first | (simp; done) | (simp; omega) | omega) | with_reducible refine up_trans ?_ (by with_reducible assumption))))) bx1_9; have hk6 := up_keep (show Below w9.heap.size w9 w10 from (by (repeat (first | with_reducible exact Below.refl _ _ | with_reducible assumption | with_reducible refine up_alloc ?_ _ | with_reducible refine up_drew ?_ | with_reducible refine up_drewN ?_ _ | (with_reducible refine up_set ?_ ?hset _; case hset => first | (simp; done) | (simp; omega) | omega) | with_reducible refine up_trans ?_ (by with_reducible assumption))))) bx2_9; have hk7 := up_keep (show Below w9.heap.size w9 w10 from (by (repeat (first | with_reducible exact Below.refl _ _ | with_reducible assumption | with_reducible refine up_alloc ?_ _ | with_reducible refine up_drew ?_ | with_reducible refine up_drewN ?_ _ | (with_reducible refine up_set ?_ ?hset _; case hset => first | (simp; done) | (simp; omega) | omega) | with_reducible refine up_trans ?_ (by with_reducible assumption))))) bx3_9))
    all_goals
      have hz9 := hb9.size
      have hW10 := up_trans hW9 hb9
      have k0_10 := up_keep hb9 k0_9
      have k1_10 := up_keep hb9 k1_9
      have k2_10 := up_keep hb9 k2_9
      have k3_10 := up_keep hb9 k3_9
      have bw0_10 := up_keep hb9 bw0_9
      have bw1_10 := up_keep hb9 bw1_9
      have bw2_10 := up_keep hb9 bw2_9
      have bw3_10 := up_keep hb9 bw3_9
      have bx0_10 := up_keep hb9 bx0_9
      have bx1_10 := up_keep hb9 bx1_9
      have bx2_10 := up_keep hb9 bx2_9
      have bx3_10 := up_keep hb9 bx3_9
      have bg0_10 := up_keep hb9 bg0_9
      have bg1_10 := up_keep hb9 bg1_9
      have bg2_10 := up_keep hb9 bg2_9
      have bg3_10 := up_keep hb9 bg3_9
      have h_x0_10 := h_x0_9.up hb9
      go_wp2_with fail
      refine (markTransition_g _ (.agg #[.slice x0_A0 d.n x0_c0, .slice x0_A1 d.m x0_c1, .int .i64 d.c, .slice x0_A2 d.l x0_c2]) _ (1) _ h_x0_10 (by omega) (by omega) (by omega) (by omega) (by omega)).mono ?_
      rintro e w11 ⟨rfl, h_x0_11, hg10⟩
      have ht10 : Turned w4.heap.size w5.heap.size w10 w11 := hg10 _ _ h_x0_5.trn rfl rfl rfl
      have hz10 := ht10.size
      have hW11 := hW10.trans ((ht10.below (by omega)).mono (by omega))
      have k0_11 := ht10.cell k0_10 (.inl (by omega))
      have k1_11 := ht10.cell k1_10 (.inl (by omega))
      have k2_11 := ht10.cell k2_10 (.inl (by omega))
      have k3_11 := ht10.cell k3_10 (.inl (by omega))
      have bw0_11 := ht10.cell bw0_10 (.inl (by omega))
      have bw1_11 := ht10.cell bw1_10 (.inl (by omega))
      have bw2_11 := ht10.cell bw2_10 (.inl (by omega))
      have bw3_11 := ht10.cell bw3_10 (.inl (by omega))
      have bx0_11 := ht10.cell bx0_10 (.inr (by omega))
      have bx1_11 := ht10.cell bx1_10 (.inr (by omega))
      have bx2_11 := ht10.cell bx2_10 (.inr (by omega))
      have bx3_11 := ht10.cell bx3_10 (.inr (by omega))
      have bg0_11 := ht10.cell bg0_10 (.inr (by omega))
      have bg1_11 := ht10.cell bg1_10 (.inr (by omega))
      have bg2_11 := ht10.cell bg2_10 (.inr (by omega))
      have bg3_11 := ht10.cell bg3_10 (.inr (by omega))
      have h_rI_9 := h_rI_8.up hb8
      have h_rI_10 := h_rI_9.up hb9
      have h_rI_11 := h_rI_10.turn ht10 (by omega)
      have h_rS_9 := h_rS_8.up hb8
      have h_rS_10 := h_rS_9.up hb9
      have h_rS_11 := Trn.turn h_rS_4.trn rfl rfl rfl h_rS_10.trn ht10 (by omega) (by omega)
      go_wp2_with fail
      refine (eqTransition_g (.agg #[.slice rI_A0 D.n rI_c0, .slice rI_A1 D.m rI_c1, .int .i64 D.c, .slice rI_A2 D.l rI_c2]) (.agg #[.slice rS_A0 D.n rS_c0, .slice rS_A1 D.m rS_c1, .int .i64 D.c, .slice rS_A2 D.l rS_c2]) _ _ h_rI_11.trn h_rS_11 (by omega) (by omega) (by omega)).mono ?_
      rintro e w12 ⟨rfl, hb11⟩
      have hz11 := hb11.size
      have hW12 := up_trans hW11 hb11
      have k0_12 := up_keep hb11 k0_11
      have k1_12 := up_keep hb11 k1_11
      have k2_12 := up_keep hb11 k2_11
      have k3_12 := up_keep hb11 k3_11
      have bw0_12 := up_keep hb11 bw0_11
      have bw1_12 := up_keep hb11 bw1_11
      have bw2_12 := up_keep hb11 bw2_11
      have bw3_12 := up_keep hb11 bw3_11
      have bx0_12 := up_keep hb11 bx0_11
      have bx1_12 := up_keep hb11 bx1_11
      have bx2_12 := up_keep hb11 bx2_11
      have bx3_12 := up_keep hb11 bx3_11
      have bg0_12 := up_keep hb11 bg0_11
      have bg1_12 := up_keep hb11 bg1_11
      have bg2_12 := up_keep hb11 bg2_11
      have bg3_12 := up_keep hb11 bg3_11
      have h_rI_12 := h_rI_11.up hb11
      go_wp2_with fail
      refine (markTransition_g _ (.agg #[.slice rI_A0 D.n rI_c0, .slice rI_A1 D.m rI_c1, .int .i64 D.c, .slice rI_A2 D.l rI_c2]) _ (1) _ h_rI_12 (by omega) (by omega) (by omega) (by omega) (by omega)).mono ?_
      rintro e w13 ⟨rfl, h_rI_13, hg12⟩
      have ht12 : Turned w6.heap.size w7.heap.size w12 w13 := hg12 _ _ h_rI_7.trn rfl rfl rfl
      have hz12 := ht12.size
      have hW13 := hW12.trans ((ht12.below (by omega)).mono (by omega))
      have k0_13 := ht12.cell k0_12 (.inl (by omega))
      have k1_13 := ht12.cell k1_12 (.inl (by omega))
      have k2_13 := ht12.cell k2_12 (.inl (by omega))
      have k3_13 := ht12.cell k3_12 (.inl (by omega))
      have bw0_13 := ht12.cell bw0_12 (.inl (by omega))
      have bw1_13 := ht12.cell bw1_12 (.inl (by omega))
      have bw2_13 := ht12.cell bw2_12 (.inl (by omega))
      have bw3_13 := ht12.cell bw3_12 (.inl (by omega))
      have bx0_13 := ht12.cell bx0_12 (.inl (by omega))
      have bx1_13 := ht12.cell bx1_12 (.inl (by omega))
      have bx2_13 := ht12.cell bx2_12 (.inl (by omega))
      have bx3_13 := ht12.cell bx3_12 (.inl (by omega))
      have bg0_13 := ht12.cell bg0_12 (.inr (by omega))
      have bg1_13 := ht12.cell bg1_12 (.inr (by omega))
      have bg2_13 := ht12.cell bg2_12 (.inr (by omega))
      have bg3_13 := ht12.cell bg3_12 (.inr (by omega))
      go_wp2_with fail
      refine (heldTransition_g (.agg #[.slice rI_A0 D.n rI_c0, .slice rI_A1 D.m rI_c1, .int .i64 D.c, .slice rI_A2 D.l rI_c2]) _ 1 _ h_rI_13.trn (by omega) (by omega) (by omega) (by omega) (by omega)).mono ?_
      rintro e w14 ⟨rfl, hb13⟩
      have hz13 := hb13.size
      have hW14 := up_trans hW13 hb13
      have k0_14 := up_keep hb13 k0_13
      have k1_14 := up_keep hb13 k1_13
      have k2_14 := up_keep hb13 k2_13
      have k3_14 := up_keep hb13 k3_13
      have bw0_14 := up_keep hb13 bw0_13
      have bw1_14 := up_keep hb13 bw1_13
      have bw2_14 := up_keep hb13 bw2_13
      have bw3_14 := up_keep hb13 bw3_13
      have bx0_14 := up_keep hb13 bx0_13
      have bx1_14 := up_keep hb13 bx1_13
      have bx2_14 := up_keep hb13 bx2_13
      have bx3_14 := up_keep hb13 bx3_13
      have bg0_14 := up_keep hb13 bg0_13
      have bg1_14 := up_keep hb13 bg1_13
      have bg2_14 := up_keep hb13 bg2_13
      have bg3_14 := up_keep hb13 bg3_13
      have h_a_10 := h_a_9.up hb9
      have h_a_11 := Trn.turn h_a_4 rfl rfl rfl h_a_10 ht10 (by omega) (by omega)
      have h_a_12 := h_a_11.up hb11
      have h_a_13 := Trn.turn h_a_6 rfl rfl rfl h_a_12 ht12 (by omega) (by omega)
      have h_a_14 := h_a_13.up hb13
      go_wp2_with fail
      refine (toTransition_g _ d _ h_a_14 (by omega) (by omega) (by omega)).mono ?_
      rintro e w15 ⟨z0, rfl, h_z0_15, hb14⟩
      have hz14 := hb14.size
      have hW15 := up_trans hW14 hb14
      obtain ⟨z0_f, z0_t, z0_p, he_z0, g1, g2, g3, _⟩ := id h_z0_15
      obtain ⟨z0_A0, z0_c0, rfl, _⟩ := g1.shape
      obtain ⟨z0_A1, z0_c1, rfl, _⟩ := g2.shape
      obtain ⟨z0_A2, z0_c2, rfl, _⟩ := g3.shape
      subst he_z0
      clear g1 g2 g3
      go_wp2_with fail
      refine (HI.out (.agg #[.slice z0_A0 d.n z0_c0, .slice z0_A1 d.m z0_c1, .int .i64 d.c, .slice z0_A2 d.l z0_c2]) _ h_z0_15.trn).mono ?_
      rintro e w16 ⟨rH, rfl, h_rH_16, hb15⟩
      have hz15 := hb15.size
      have hW16 := up_trans hW15 hb15
      obtain ⟨rH_f, rH_t, rH_p, he_rH, g1, g2, g3, _⟩ := id h_rH_16
      obtain ⟨rH_A0, rH_c0, rfl, _⟩ := g1.shape
      obtain ⟨rH_A1, rH_c1, rfl, _⟩ := g2.shape
      obtain ⟨rH_A2, rH_c2, rfl, _⟩ := g3.shape
      subst he_rH
      clear g1 g2 g3
      have k0_15 := up_keep hb14 k0_14
      have k0_16 := up_keep hb15 k0_15
      have yy0 := up_keep (below_alloc w16 (.cells #[.slice rH_A0 D.n rH_c0, .slice rH_A1 D.m rH_c1, .int .i64 D.c, .slice rH_A2 D.l rH_c2] 32)) k0_16
      have k1_15 := up_keep hb14 k1_14
      have k1_16 := up_keep hb15 k1_15
      have yy1 := up_keep (below_alloc w16 (.cells #[.slice rH_A0 D.n rH_c0, .slice rH_A1 D.m rH_c1, .int .i64 D.c, .slice rH_A2 D.l rH_c2] 32)) k1_16
      have k2_15 := up_keep hb14 k2_14
      have k2_16 := up_keep hb15 k2_15
      have yy2 := up_keep (below_alloc w16 (.cells #[.slice rH_A0 D.n rH_c0, .slice rH_A1 D.m rH_c1, .int .i64 D.c, .slice rH_A2 D.l rH_c2] 32)) k2_16
      have k3_15 := up_keep hb14 k3_14
      have k3_16 := up_keep hb15 k3_15
      have yy3 := up_keep (below_alloc w16 (.cells #[.slice rH_A0 D.n rH_c0, .slice rH_A1 D.m rH_c1, .int .i64 D.c, .slice rH_A2 D.l rH_c2] 32)) k3_16
      have bw0_15 := up_keep hb14 bw0_14
      have bw0_16 := up_keep hb15 bw0_15
      have yy4 := up_keep (below_alloc w16 (.cells #[.slice rH_A0 D.n rH_c0, .slice rH_A1 D.m rH_c1, .int .i64 D.c, .slice rH_A2 D.l rH_c2] 32)) bw0_16
      have bw1_15 := up_keep hb14 bw1_14
      have bw1_16 := up_keep hb15 bw1_15
      have yy5 := up_keep (below_alloc w16 (.cells #[.slice rH_A0 D.n rH_c0, .slice rH_A1 D.m rH_c1, .int .i64 D.c, .slice rH_A2 D.l rH_c2] 32)) bw1_16
      have bw2_15 := up_keep hb14 bw2_14
      have bw2_16 := up_keep hb15 bw2_15
      have yy6 := up_keep (below_alloc w16 (.cells #[.slice rH_A0 D.n rH_c0, .slice rH_A1 D.m rH_c1, .int .i64 D.c, .slice rH_A2 D.l rH_c2] 32)) bw2_16
      have bw3_15 := up_keep hb14 bw3_14
      have bw3_16 := up_keep hb15 bw3_15
      have yy7 := up_keep (below_alloc w16 (.cells #[.slice rH_A0 D.n rH_c0, .slice rH_A1 D.m rH_c1, .int .i64 D.c, .slice rH_A2 D.l rH_c2] 32)) bw3_16
      have bx0_15 := up_keep hb14 bx0_14
      have bx0_16 := up_keep hb15 bx0_15
      have yy8 := up_keep (below_alloc w16 (.cells #[.slice rH_A0 D.n rH_c0, .slice rH_A1 D.m rH_c1, .int .i64 D.c, .slice rH_A2 D.l rH_c2] 32)) bx0_16
      have bx1_15 := up_keep hb14 bx1_14
      have bx1_16 := up_keep hb15 bx1_15
      have yy9 := up_keep (below_alloc w16 (.cells #[.slice rH_A0 D.n rH_c0, .slice rH_A1 D.m rH_c1, .int .i64 D.c, .slice rH_A2 D.l rH_c2] 32)) bx1_16
      have bx2_15 := up_keep hb14 bx2_14
      have bx2_16 := up_keep hb15 bx2_15
      have yy10 := up_keep (below_alloc w16 (.cells #[.slice rH_A0 D.n rH_c0, .slice rH_A1 D.m rH_c1, .int .i64 D.c, .slice rH_A2 D.l rH_c2] 32)) bx2_16
      have bx3_15 := up_keep hb14 bx3_14
      have bx3_16 := up_keep hb15 bx3_15
      have yy11 := up_keep (below_alloc w16 (.cells #[.slice rH_A0 D.n rH_c0, .slice rH_A1 D.m rH_c1, .int .i64 D.c, .slice rH_A2 D.l rH_c2] 32)) bx3_16
      have bg0_15 := up_keep hb14 bg0_14
      have bg0_16 := up_keep hb15 bg0_15
      have yy12 := up_keep (below_alloc w16 (.cells #[.slice rH_A0 D.n rH_c0, .slice rH_A1 D.m rH_c1, .int .i64 D.c, .slice rH_A2 D.l rH_c2] 32)) bg0_16
      have bg1_15 := up_keep hb14 bg1_14
      have bg1_16 := up_keep hb15 bg1_15
      have yy13 := up_keep (below_alloc w16 (.cells #[.slice rH_A0 D.n rH_c0, .slice rH_A1 D.m rH_c1, .int .i64 D.c, .slice rH_A2 D.l rH_c2] 32)) bg1_16
      have bg2_15 := up_keep hb14 bg2_14
      have bg2_16 := up_keep hb15 bg2_15
      have yy14 := up_keep (below_alloc w16 (.cells #[.slice rH_A0 D.n rH_c0, .slice rH_A1 D.m rH_c1, .int .i64 D.c, .slice rH_A2 D.l rH_c2] 32)) bg2_16
      have bg3_15 := up_keep hb14 bg3_14
      have bg3_16 := up_keep hb15 bg3_15
      have yy15 := up_keep (below_alloc w16 (.cells #[.slice rH_A0 D.n rH_c0, .slice rH_A1 D.m rH_c1, .int .i64 D.c, .slice rH_A2 D.l rH_c2] 32)) bg3_16
      go_wp2_with fail
      clear yy0 yy1 yy2 yy3 yy4 yy5 yy6 yy7 yy8 yy9 yy10 yy11 yy12 yy13 yy14 yy15
      obtain ⟨w17, hW⟩ : ∃ W, W = World.alloc w16 (.cells #[.slice rH_A0 D.n rH_c0, .slice rH_A1 D.m rH_c1, .int .i64 D.c, .slice rH_A2 D.l rH_c2] 32) := ⟨_, rfl⟩
      rw [← hW]
      have hb16 : Below w16.heap.size w16 w17 := by rw [hW]; exact below_alloc _ _
      have hs16 : w16.heap.size < w17.heap.size := by rw [hW]; simp
      have bh0 : w17.cell? ⟨w16.heap.size, 0, none⟩ = some (.slice rH_A0 D.n rH_c0) := by rw [hW]; simp [go_sem]
      have bh1 : w17.cell? ⟨w16.heap.size, 1, none⟩ = some (.slice rH_A1 D.m rH_c1) := by rw [hW]; simp [go_sem]
      have bh2 : w17.cell? ⟨w16.heap.size, 2, none⟩ = some (.int .i64 D.c) := by rw [hW]; simp [go_sem]
      have bh3 : w17.cell? ⟨w16.heap.size, 3, none⟩ = some (.slice rH_A2 D.l rH_c2) := by rw [hW]; simp [go_sem]
      clear hW
      have hz16 := hb16.size
      have hW17 := up_trans hW16 hb16
      have k0_17 := up_keep hb16 k0_16
      have k1_17 := up_keep hb16 k1_16
      have k2_17 := up_keep hb16 k2_16
      have k3_17 := up_keep hb16 k3_16
      have bw0_17 := up_keep hb16 bw0_16
      have bw1_17 := up_keep hb16 bw1_16
      have bw2_17 := up_keep hb16 bw2_16
      have bw3_17 := up_keep hb16 bw3_16
      have bx0_17 := up_keep hb16 bx0_16
      have bx1_17 := up_keep hb16 bx1_16
      have bx2_17 := up_keep hb16 bx2_16
      have bx3_17 := up_keep hb16 bx3_16
      have bg0_17 := up_keep hb16 bg0_16
      have bg1_17 := up_keep hb16 bg1_16
      have bg2_17 := up_keep hb16 bg2_16
      have bg3_17 := up_keep hb16 bg3_16
      have h_rH_17 := h_rH_16.up hb16
      have h_rS_12 := h_rS_11.up hb11
      have h_rS_13 := Trn.turn h_rS_6.trn rfl rfl rfl h_rS_12 ht12 (by omega) (by omega)
      have h_rS_14 := h_rS_13.up hb13
      have h_rS_15 := h_rS_14.up hb14
      have h_rS_16 := h_rS_15.up hb15
      have h_rS_17 := h_rS_16.up hb16
      refine (eqTransition_g (.agg #[.slice rH_A0 D.n rH_c0, .slice rH_A1 D.m rH_c1, .int .i64 D.c, .slice rH_A2 D.l rH_c2]) (.agg #[.slice rS_A0 D.n rS_c0, .slice rS_A1 D.m rS_c1, .int .i64 D.c, .slice rS_A2 D.l rS_c2]) _ _ h_rH_17.trn h_rS_17 (by omega) (by omega) (by omega)).mono ?_
      rintro e w18 ⟨rfl, hb17⟩
      have hz17 := hb17.size
      have hW18 := up_trans hW17 hb17
      have k0_18 := up_keep hb17 k0_17
      have k1_18 := up_keep hb17 k1_17
      have k2_18 := up_keep hb17 k2_17
      have k3_18 := up_keep hb17 k3_17
      have bw0_18 := up_keep hb17 bw0_17
      have bw1_18 := up_keep hb17 bw1_17
      have bw2_18 := up_keep hb17 bw2_17
      have bw3_18 := up_keep hb17 bw3_17
      have bx0_18 := up_keep hb17 bx0_17
      have bx1_18 := up_keep hb17 bx1_17
      have bx2_18 := up_keep hb17 bx2_17
      have bx3_18 := up_keep hb17 bx3_17
      have bg0_18 := up_keep hb17 bg0_17
      have bg1_18 := up_keep hb17 bg1_17
      have bg2_18 := up_keep hb17 bg2_17
      have bg3_18 := up_keep hb17 bg3_17
      have bh0_18 := up_keep hb17 bh0
      have bh1_18 := up_keep hb17 bh1
      have bh2_18 := up_keep hb17 bh2
      have bh3_18 := up_keep hb17 bh3
      have h_rI_14 := h_rI_13.up hb13
      have h_rI_15 := h_rI_14.up hb14
      have h_rI_16 := h_rI_15.up hb15
      have h_rI_17 := h_rI_16.up hb16
      have h_rI_18 := h_rI_17.up hb17
      go_wp2_with fail
      refine (heldTransition_g (.agg #[.slice rI_A0 D.n rI_c0, .slice rI_A1 D.m rI_c1, .int .i64 D.c, .slice rI_A2 D.l rI_c2]) _ 1 _ h_rI_18.trn (by omega) (by omega) (by omega) (by omega) (by omega)).mono ?_
      rintro e w19 ⟨rfl, hb18⟩
      have hz18 := hb18.size
      have hW19 := up_trans hW18 hb18
      go_wp2_with fail
      go_ret
      exact Ans.bool rfl (hbW.trans (hW19.mono hbW.size))
  · have HZ := szV_neg (left := 1048576) (n := d.n + d.m + d.l) (by omega)
    go_enter Try.func9, Try.ntmps9
    go_wp2_with fail
    refine (szTransition_g _ d _ _ (h.up (by (repeat (first | with_reducible exact Below.refl _ _ | with_reducible assumption | with_reducible refine up_alloc ?_ _ | with_reducible refine up_drew ?_ | with_reducible refine up_drewN ?_ _ | (with_reducible refine up_set ?_ ?hset _; case hset => first | (simp; done) | (simp; omega) | omega) | with_reducible refine up_trans ?_ (by with_reducible assumption))))) (by omega) (by omega) hn hm hl).mono ?_
    rintro e w1 ⟨rfl, hb0⟩
    go_wp2_with fail
    go_ret
    exact Ans.bool rfl (by (repeat (first | with_reducible exact Below.refl _ _ | with_reducible assumption | with_reducible refine up_alloc ?_ _ | with_reducible refine up_drew ?_ | with_reducible refine up_drewN ?_ _ | (with_reducible refine up_set ?_ ?hset _; case hset => first | (simp; done) | (simp; omega) | omega) | with_reducible refine up_trans ?_ (by with_reducible assumption))))

set_option maxRecDepth 100000 in
theorem fnExactSwapPlaces_law : LawWalk Try.prog 9 Try.f9 := by
  intro H enc W base args ds ps hval hA
  rw [Try.params9] at hval hA
  obtain ⟨v0, v1, v2, d0, d1, d2, p0, p1, p2, rfl, h0, h1, h2⟩ := args3 hA
  obtain ⟨D, hs, b1, b2, b3⟩ := open_trans (hval 0 _ v0 rfl rfl) h0
  obtain ⟨i, rfl, _⟩ := open_int Try.underlying3 (hval 1 _ v1 rfl rfl) h1
  obtain ⟨j, rfl, _⟩ := open_int Try.underlying3 (hval 2 _ v2 rfl rfl) h2
  exact fnExactSwapPlaces_walk v0 D i j b1 b2 b3 W hs

set_option maxRecDepth 100000 in
set_option maxHeartbeats 4000000 in
theorem fnExactSwapPlaces_wit (os : Os) (H : Type) (enc : TypeId × Value → H) : ∃ (w : World) (tape : Tape) (i : Input), w.os = os ∧ (w.forCall tape i).Shaped Try.checked.prog ∧ i.vars = [] ∧ Input.okWide Try.checked.prog (w.forCall tape i) .any w.heap.size 9 i ∧
      Rows.fnExactSwapPlacesSpec.pre6 enc Try.checked.prog Try.f9 [] false (w.forCall tape i).memory i.args ∧ ({} : Assume).holds Try.checked.prog (lone (Frame.enter Try.checked.prog 9 i.args .normal) [] (w.forCall tape i)) :=
  ChangeSpec.witness6 (enc := enc) (C := Try.checked) false ⟨#[], #[.agg #[.slice none 0 0, .slice none 0 0, .int .i64 0, .slice none 0 0], .int .i64 0, .int .i64 0], []⟩ 8 (by kernel_rfl) (by kernel_rfl) (by kernel_rfl) (by kernel_rfl)

set_option maxRecDepth 100000 in
set_option maxHeartbeats 4000000 in
theorem fnExactSwapPlaces_row (os : Os) (started : os.Started) (H : Type) (enc : TypeId × Value → H) :
    ReturnsInHanded {} Try.checked os 9 .any (Rows.fnExactSwapPlacesSpec.pre6 enc Try.checked.prog Try.f9 [] false) (Rows.fnExactSwapPlacesSpec.post enc Try.checked.prog Try.f9 false true false false) :=
  lifted_of (C := Try.checked) (s := Rows.fnExactSwapPlacesSpec) (tb := 4) (by kernel_rfl) (by kernel_rfl) (by kernel_rfl) (by kernel_rfl) Try.func9 rfl Try.underlying4 rfl
      (fun H ds h => by
        have h2 : ds.length = 3 := by rw [Try.params9] at h; exact h
        match ds, h2 with
        | [_, _, _], _ => rfl)
      fnExactSwapPlaces_law os started H enc (fnExactSwapPlaces_wit os H enc)

set_option maxRecDepth 100000 in
set_option maxHeartbeats 4000000 in
theorem fnExactSwapPlaces_holds : Rows.FnExactSwapPlacesSaid :=
  OpenClaim.holds_of_wide 9 Try.f9 rfl rfl rfl rfl rfl rfl rfl ⟨rfl, rfl, rfl, rfl, rfl⟩ rfl rfl rfl rfl rfl (by kernel_rfl) Try.func9 (by kernel_rfl)
    (of_decide_eq_true (by kernel_rfl)) (by unfold Func.isWrapper; first | (rw [if_pos (by decide +kernel)]; kernel_rfl) | (rw [if_neg (by decide +kernel)]; exact ⟨rfl, rfl⟩))
    (fun os started H enc _ => fnExactSwapPlaces_row os started H enc)

#print axioms fnExactSwapPlaces_holds
end Go.Proofs.Ytkmnkodgmngaeaa
