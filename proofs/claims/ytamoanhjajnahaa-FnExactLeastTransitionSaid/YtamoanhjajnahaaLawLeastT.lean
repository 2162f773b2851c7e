/-
  FnExactLeastTransition: for all arguments the law returns true, and its arguments read afterwards as before. No condition.
-/
import Derived.Test.YtamoanhjajnahaaRows
import Derived.Test.YtamoanhjajnahaaBase
import Derived.Test.YtamoanhjajnahaaSpot
import Derived.Test.YtamoanhjajnahaaSlice
import Derived.Test.YtamoanhjajnahaaChart
import Derived.Test.YtamoanhjajnahaaLawS
import Derived.Test.YtamoanhjajnahaaMark
import Derived.Test.YtamoanhjajnahaaOpen
import Derived.Test.YtamoanhjajnahaaTrod
import Derived.Test.YtamoanhjajnahaaInts
import Derived.Test.YtamoanhjajnahaaIntsL
import Derived.Test.YtamoanhjajnahaaTurned
import Derived.Test.YtamoanhjajnahaaTrans
import Derived.Test.YtamoanhjajnahaaAppend
import Derived.Test.YtamoanhjajnahaaAppendE
import Derived.Test.YtamoanhjajnahaaForm
import Derived.Test.YtamoanhjajnahaaCopyI
import Derived.Test.YtamoanhjajnahaaChanged
import Derived.Test.YtamoanhjajnahaaNewT
import Derived.Test.YtamoanhjajnahaaMatch
import Derived.Test.YtamoanhjajnahaaRowsI
import Derived.Test.YtamoanhjajnahaaCosts
import Derived.Test.YtamoanhjajnahaaMatS
import Derived.Test.YtamoanhjajnahaaMatchP
import Derived.Test.YtamoanhjajnahaaMatchQ
import Derived.Test.YtamoanhjajnahaaOnes
import Derived.Test.YtamoanhjajnahaaTable
import Derived.Test.YtamoanhjajnahaaLeast
import Derived.Test.YtamoanhjajnahaaLeastM
import Derived.Test.YtamoanhjajnahaaRowB
import Derived.Test.YtamoanhjajnahaaLeastT

namespace Go.Proofs.Ytamoanhjajnahaa
open Go.RowKit Go.ChangeShapes Go.WideShapes Go.Sort

set_option maxRecDepth 100000 in
set_option maxHeartbeats 8000000 in
theorem fnExactLeastTransition_walk (a b : Value) (n m : Nat) (X Y U V : Nat → Int) (c : Int) (hn : n ≤ 9223372036854775807) (hm : m ≤ 9223372036854775807) (w : World) (ha : Spots w a n X Y) (hb : Spots w b m U V) :
    Calls Try.prog 13 #[a, b, .int .i64 c] w (Ans w (.bool true)) := by
  by_cases hl : (n : Int) ≤ 1048576
  · have HZ := szV_pos (left := 1048576) (n := n) hl
    by_cases hl2 : (m : Int) ≤ 1048576 - n
    · have HZ2 := szV_pos (left := 1048576 - n) (n := m) hl2
      have HS := Lib.hid (fun a b w' (ha' : Spots w' a n X Y) (hb' : Spots w' b m U V) => sLeastTransition_g a b n m X Y U V c w' ha' hb' (by omega) (by omega))
      have HI := Lib.hid (fun a b w' (ha' : Spots w' a n X Y) (hb' : Spots w' b m U V) => iLeastTransition_g a b n m X Y U V c w' ha' hb' (by omega) (by omega))
      have hD := ltD_le n m X Y U V c (by omega) (by omega)
      generalize ltD n m X Y U V c = D at *
      generalize ccB n m X Y U V c = q at *
      obtain ⟨hD1, hD2, hD3⟩ := hD
      have eq1 : (q != q) = false := by simp
      go_enter Try.func13, Try.ntmps13
      have hW0 := Below.refl w.heap.size w
      go_wp2_with fail
      refine (szSpotS_g a _ _ _ _ _ ha (by omega) (by omega) (by omega)).mono ?_
      rintro e w1 ⟨rfl, hb0⟩
      have hz0 := hb0.size
      have hW1 := up_trans hW0 hb0
      have h_b_1 := hb.up hb0
      go_wp2_with fail
      refine (szSpotS_g b _ _ _ _ _ h_b_1 (by omega) (by omega) (by omega)).mono ?_
      rintro e w2 ⟨rfl, hb1⟩
      have hz1 := hb1.size
      have hW2 := up_trans hW1 hb1
      have h_a_1 := ha.up hb0
      have h_a_2 := h_a_1.up hb1
      go_wp2_with fail
      refine (toSpotS_g a _ _ _ _ h_a_2 (by omega)).mono ?_
      rintro e w3 ⟨t0, rfl, h_t0_3, hb2⟩
      have hz2 := hb2.size
      have hW3 := up_trans hW2 hb2
      have h_b_2 := h_b_1.up hb1
      have h_b_3 := h_b_2.up hb2
      go_wp2_with fail
      refine (toSpotS_g b _ _ _ _ h_b_3 (by omega)).mono ?_
      rintro e w4 ⟨t1, rfl, h_t1_4, hb3⟩
      have hz3 := hb3.size
      have hW4 := up_trans hW3 hb3
      have h_t0_4 := h_t0_3.up hb3
      go_wp2_with fail
      refine (HS.out t0 t1 _ h_t0_4.spots h_t1_4.spots).mono ?_
      rintro e w5 ⟨rS, rfl, h_rS_5, hb4⟩
      have hz4 := hb4.size
      have hW5 := up_trans hW4 hb4
      obtain ⟨rS_f, rS_t, rS_p, he_rS, g1, g2, g3, _⟩ := id h_rS_5
      obtain ⟨rS_A0, rS_c0, rfl, _⟩ := g1.shape
      obtain ⟨rS_A1, rS_c1, rfl, _⟩ := g2.shape
      obtain ⟨rS_A2, rS_c2, rfl, _⟩ := g3.shape
      subst he_rS
      clear g1 g2 g3
      go_wp2_with fail
      obtain ⟨w6, hW⟩ : ∃ W, W = World.alloc w5 (.cells #[.slice rS_A0 D.n rS_c0, .slice rS_A1 D.m rS_c1, .int .i64 D.c, .slice rS_A2 D.l rS_c2] 48) := ⟨_, rfl⟩
      rw [← hW]
      have hb5 : Below w5.heap.size w5 w6 := by rw [hW]; exact below_alloc _ _
      have hs5 : w5.heap.size < w6.heap.size := by rw [hW]; simp
      have bw0 : w6.cell? ⟨w5.heap.size, 0, none⟩ = some (.slice rS_A0 D.n rS_c0) := by rw [hW]; simp [go_sem]
      have bw1 : w6.cell? ⟨w5.heap.size, 1, none⟩ = some (.slice rS_A1 D.m rS_c1) := by rw [hW]; simp [go_sem]
      have bw2 : w6.cell? ⟨w5.heap.size, 2, none⟩ = some (.int .i64 D.c) := by rw [hW]; simp [go_sem]
      have bw3 : w6.cell? ⟨w5.heap.size, 3, none⟩ = some (.slice rS_A2 D.l rS_c2) := by rw [hW]; simp [go_sem]
      clear hW
      have hz5 := hb5.size
      have hW6 := up_trans hW5 hb5
      have h_a_3 := h_a_2.up hb2
      have h_a_4 := h_a_3.up hb3
      have h_a_5 := h_a_4.up hb4
      have h_a_6 := h_a_5.up hb5
      refine (toSpotS_g a _ _ _ _ h_a_6 (by omega)).mono ?_
      rintro e w7 ⟨x0, rfl, h_x0_7, hb6⟩
      have hz6 := hb6.size
      have hW7 := up_trans hW6 hb6
      have h_b_4 := h_b_3.up hb3
      have h_b_5 := h_b_4.up hb4
      have h_b_6 := h_b_5.up hb5
      have h_b_7 := h_b_6.up hb6
      go_wp2_with fail
      refine (toSpotS_g b _ _ _ _ h_b_7 (by omega)).mono ?_
      rintro e w8 ⟨x1, rfl, h_x1_8, hb7⟩
      have hz7 := hb7.size
      have hW8 := up_trans hW7 hb7
      have h_x0_8 := h_x0_7.up hb7
      go_wp2_with fail
      refine (HI.out x0 x1 _ h_x0_8.spots h_x1_8.spots).mono ?_
      rintro e w9 ⟨rI, rfl, h_rI_9, hb8⟩
      have hz8 := hb8.size
      have hW9 := up_trans hW8 hb8
      obtain ⟨rI_f, rI_t, rI_p, he_rI, g1, g2, g3, _⟩ := id h_rI_9
      obtain ⟨rI_A0, rI_c0, rfl, _⟩ := g1.shape
      obtain ⟨rI_A1, rI_c1, rfl, _⟩ := g2.shape
      obtain ⟨rI_A2, rI_c2, rfl, _⟩ := g3.shape
      subst he_rI
      clear g1 g2 g3
      have bw0_7 := up_keep hb6 bw0
      have bw0_8 := up_keep hb7 bw0_7
      have bw0_9 := up_keep hb8 bw0_8
      have yy0 := up_keep (below_alloc w9 (.cells #[.slice rI_A0 D.n rI_c0, .slice rI_A1 D.m rI_c1, .int .i64 D.c, .slice rI_A2 D.l rI_c2] 48)) bw0_9
      have bw1_7 := up_keep hb6 bw1
      have bw1_8 := up_keep hb7 bw1_7
      have bw1_9 := up_keep hb8 bw1_8
      have yy1 := up_keep (below_alloc w9 (.cells #[.slice rI_A0 D.n rI_c0, .slice rI_A1 D.m rI_c1, .int .i64 D.c, .slice rI_A2 D.l rI_c2] 48)) bw1_9
      have bw2_7 := up_keep hb6 bw2
      have bw2_8 := up_keep hb7 bw2_7
      have bw2_9 := up_keep hb8 bw2_8
      have yy2 := up_keep (below_alloc w9 (.cells #[.slice rI_A0 D.n rI_c0, .slice rI_A1 D.m rI_c1, .int .i64 D.c, .slice rI_A2 D.l rI_c2] 48)) bw2_9
      have bw3_7 := up_keep hb6 bw3
      have bw3_8 := up_keep hb7 bw3_7
      have bw3_9 := up_keep hb8 bw3_8
      have yy3 := up_keep (below_alloc w9 (.cells #[.slice rI_A0 D.n rI_c0, .slice rI_A1 D.m rI_c1, .int .i64 D.c, .slice rI_A2 D.l rI_c2] 48)) bw3_9
      go_wp2_with fail
      clear yy0 yy1 yy2 yy3
      obtain ⟨w10, hW⟩ : ∃ W, W = World.alloc w9 (.cells #[.slice rI_A0 D.n rI_c0, .slice rI_A1 D.m rI_c1, .int .i64 D.c, .slice rI_A2 D.l rI_c2] 48) := ⟨_, rfl⟩
      rw [← hW]
      have hb9 : Below w9.heap.size w9 w10 := by rw [hW]; exact below_alloc _ _
      have hs9 : w9.heap.size < w10.heap.size := by rw [hW]; simp
      have bg0 : w10.cell? ⟨w9.heap.size, 0, none⟩ = some (.slice rI_A0 D.n rI_c0) := by rw [hW]; simp [go_sem]
      have bg1 : w10.cell? ⟨w9.heap.size, 1, none⟩ = some (.slice rI_A1 D.m rI_c1) := by rw [hW]; simp [go_sem]
      have bg2 : w10.cell? ⟨w9.heap.size, 2, none⟩ = some (.int .i64 D.c) := by rw [hW]; simp [go_sem]
      have bg3 : w10.cell? ⟨w9.heap.size, 3, none⟩ = some (.slice rI_A2 D.l rI_c2) := by rw [hW]; simp [go_sem]
      clear hW
      have hz9 := hb9.size
      have hW10 := up_trans hW9 hb9
      have h_rI_10 := h_rI_9.up hb9
      have h_rS_6 := h_rS_5.up hb5
      have h_rS_7 := h_rS_6.up hb6
      have h_rS_8 := h_rS_7.up hb7
      have h_rS_9 := h_rS_8.up hb8
      have h_rS_10 := h_rS_9.up hb9
      refine (eqTransition_g (.agg #[.slice rI_A0 D.n rI_c0, .slice rI_A1 D.m rI_c1, .int .i64 D.c, .slice rI_A2 D.l rI_c2]) (.agg #[.slice rS_A0 D.n rS_c0, .slice rS_A1 D.m rS_c1, .int .i64 D.c, .slice rS_A2 D.l rS_c2]) _ _ h_rI_10.trn h_rS_10.trn (by omega) (by omega) (by omega)).mono ?_
      rintro e w11 ⟨rfl, hb10⟩
      have hz10 := hb10.size
      have hW11 := up_trans hW10 hb10
      have h_a_7 := h_a_6.up hb6
      have h_a_8 := h_a_7.up hb7
      have h_a_9 := h_a_8.up hb8
      have h_a_10 := h_a_9.up hb9
      have h_a_11 := h_a_10.up hb10
      go_wp2_with fail
      refine (toSpotS_g a _ _ _ _ h_a_11 (by omega)).mono ?_
      rintro e w12 ⟨y0, rfl, h_y0_12, hb11⟩
      have hz11 := hb11.size
      have hW12 := up_trans hW11 hb11
      have h_x0_9 := h_x0_8.up hb8
      have h_x0_10 := h_x0_9.up hb9
      have h_x0_11 := h_x0_10.up hb10
      have h_x0_12 := h_x0_11.up hb11
      go_wp2_with fail
      refine (eqSpotS_g x0 y0 _ _ _ _ h_x0_12.spots h_y0_12.spots (by omega)).mono ?_
      rintro e w13 ⟨rfl, hb12⟩
      have hz12 := hb12.size
      have hW13 := up_trans hW12 hb12
      have h_b_8 := h_b_7.up hb7
      have h_b_9 := h_b_8.up hb8
      have h_b_10 := h_b_9.up hb9
      have h_b_11 := h_b_10.up hb10
      have h_b_12 := h_b_11.up hb11
      have h_b_13 := h_b_12.up hb12
      go_wp2_with fail
      refine (toSpotS_g b _ _ _ _ h_b_13 (by omega)).mono ?_
      rintro e w14 ⟨y1, rfl, h_y1_14, hb13⟩
      have hz13 := hb13.size
      have hW14 := up_trans hW13 hb13
      have h_x1_9 := h_x1_8.up hb8
      have h_x1_10 := h_x1_9.up hb9
      have h_x1_11 := h_x1_10.up hb10
      have h_x1_12 := h_x1_11.up hb11
      have h_x1_13 := h_x1_12.up hb12
      have h_x1_14 := h_x1_13.up hb13
      go_wp2_with fail
      refine (eqSpotS_g x1 y1 _ _ _ _ h_x1_14.spots h_y1_14.spots (by omega)).mono ?_
      rintro e w15 ⟨rfl, hb14⟩
      have hz14 := hb14.size
      have hW15 := up_trans hW14 hb14
      have h_x0_13 := h_x0_12.up hb12
      have h_x0_14 := h_x0_13.up hb13
      have h_x0_15 := h_x0_14.up hb14
      go_wp2_with fail
      refine (markSpotS_g _ x0 _ _ _ (1) _ h_x0_15 (by omega) (by omega) (by omega)).mono ?_
      rintro e w16 ⟨rfl, hg15, h_x0_16⟩
      have ht15 : Turned w6.heap.size w7.heap.size w15 w16 := markS_turned h_x0_15 h_x0_7.spots hg15
      have hz15 := ht15.size
      have hW16 := hW15.trans ((ht15.below (by omega)).mono (by omega))
      have h_x1_15 := h_x1_14.up hb14
      have h_x1_16 := h_x1_15.turn ht15 (by omega)
      go_wp2_with fail
      refine (markSpotS_g _ x1 _ _ _ (1 + 2 * (n : Nat)) _ h_x1_16 (by omega) (by omega) (by omega)).mono ?_
      rintro e w17 ⟨rfl, hg16, h_x1_17⟩
      have ht16 : Turned w7.heap.size w8.heap.size w16 w17 := markS_turned h_x1_16 h_x1_8.spots hg16
      have hz16 := ht16.size
      have hW17 := hW16.trans ((ht16.below (by omega)).mono (by omega))
      have bw0_10 := up_keep hb9 bw0_9
      have bw0_11 := up_keep hb10 bw0_10
      have bw0_12 := up_keep hb11 bw0_11
      have bw0_13 := up_keep hb12 bw0_12
      have bw0_14 := up_keep hb13 bw0_13
      have bw0_15 := up_keep hb14 bw0_14
      have bw0_16 := ht15.cell bw0_15 (.inl (by omega))
      have bw0_17 := ht16.cell bw0_16 (.inl (by omega))
      have bw1_10 := up_keep hb9 bw1_9
      have bw1_11 := up_keep hb10 bw1_10
      have bw1_12 := up_keep hb11 bw1_11
      have bw1_13 := up_keep hb12 bw1_12
      have bw1_14 := up_keep hb13 bw1_13
      have bw1_15 := up_keep hb14 bw1_14
      have bw1_16 := ht15.cell bw1_15 (.inl (by omega))
      have bw1_17 := ht16.cell bw1_16 (.inl (by omega))
      have bw2_10 := up_keep hb9 bw2_9
      have bw2_11 := up_keep hb10 bw2_10
      have bw2_12 := up_keep hb11 bw2_11
      have bw2_13 := up_keep hb12 bw2_12
      have bw2_14 := up_keep hb13 bw2_13
      have bw2_15 := up_keep hb14 bw2_14
      have bw2_16 := ht15.cell bw2_15 (.inl (by omega))
      have bw2_17 := ht16.cell bw2_16 (.inl (by omega))
      have bw3_10 := up_keep hb9 bw3_9
      have bw3_11 := up_keep hb10 bw3_10
      have bw3_12 := up_keep hb11 bw3_11
      have bw3_13 := up_keep hb12 bw3_12
      have bw3_14 := up_keep hb13 bw3_13
      have bw3_15 := up_keep hb14 bw3_14
      have bw3_16 := ht15.cell bw3_15 (.inl (by omega))
      have bw3_17 := ht16.cell bw3_16 (.inl (by omega))
      have bg0_11 := up_keep hb10 bg0
      have bg0_12 := up_keep hb11 bg0_11
      have bg0_13 := up_keep hb12 bg0_12
      have bg0_14 := up_keep hb13 bg0_13
      have bg0_15 := up_keep hb14 bg0_14
      have bg0_16 := ht15.cell bg0_15 (.inr (by omega))
      have bg0_17 := ht16.cell bg0_16 (.inr (by omega))
      have bg1_11 := up_keep hb10 bg1
      have bg1_12 := up_keep hb11 bg1_11
      have bg1_13 := up_keep hb12 bg1_12
      have bg1_14 := up_keep hb13 bg1_13
      have bg1_15 := up_keep hb14 bg1_14
      have bg1_16 := ht15.cell bg1_15 (.inr (by omega))
      have bg1_17 := ht16.cell bg1_16 (.inr (by omega))
      have bg2_11 := up_keep hb10 bg2
      have bg2_12 := up_keep hb11 bg2_11
      have bg2_13 := up_keep hb12 bg2_12
      have bg2_14 := up_keep hb13 bg2_13
      have bg2_15 := up_keep hb14 bg2_14
      have bg2_16 := ht15.cell bg2_15 (.inr (by omega))
      have bg2_17 := ht16.cell bg2_16 (.inr (by omega))
      have bg3_11 := up_keep hb10 bg3
      have bg3_12 := up_keep hb11 bg3_11
      have bg3_13 := up_keep hb12 bg3_12
      have bg3_14 := up_keep hb13 bg3_13
      have bg3_15 := up_keep hb14 bg3_14
      have bg3_16 := ht15.cell bg3_15 (.inr (by omega))
      have bg3_17 := ht16.cell bg3_16 (.inr (by omega))
      have h_rI_11 := h_rI_10.up hb10
      have h_rI_12 := h_rI_11.up hb11
      have h_rI_13 := h_rI_12.up hb12
      have h_rI_14 := h_rI_13.up hb13
      have h_rI_15 := h_rI_14.up hb14
      have h_rI_16 := h_rI_15.turn ht15 (by omega)
      have h_rI_17 := h_rI_16.turn ht16 (by omega)
      have h_rS_11 := h_rS_10.up hb10
      have h_rS_12 := h_rS_11.up hb11
      have h_rS_13 := h_rS_12.up hb12
      have h_rS_14 := h_rS_13.up hb13
      have h_rS_15 := h_rS_14.up hb14
      have h_rS_16 := Trn.turn h_rS_6.trn rfl rfl rfl h_rS_15.trn ht15 (by omega) (by omega)
      have h_rS_17 := Trn.turn h_rS_7.trn rfl rfl rfl h_rS_16 ht16 (by omega) (by omega)
      go_wp2_with fail
      refine (eqTransition_g (.agg #[.slice rI_A0 D.n rI_c0, .slice rI_A1 D.m rI_c1, .int .i64 D.c, .slice rI_A2 D.l rI_c2]) (.agg #[.slice rS_A0 D.n rS_c0, .slice rS_A1 D.m rS_c1, .int .i64 D.c, .slice rS_A2 D.l rS_c2]) _ _ h_rI_17.trn h_rS_17 (by omega) (by omega) (by omega)).mono ?_
      rintro e w18 ⟨rfl, hb17⟩
      have hz17 := hb17.size
      have hW18 := up_trans hW17 hb17
      have bw0_18 := up_keep hb17 bw0_17
      have bw1_18 := up_keep hb17 bw1_17
      have bw2_18 := up_keep hb17 bw2_17
      have bw3_18 := up_keep hb17 bw3_17
      have bg0_18 := up_keep hb17 bg0_17
      have bg1_18 := up_keep hb17 bg1_17
      have bg2_18 := up_keep hb17 bg2_17
      have bg3_18 := up_keep hb17 bg3_17
      have h_rI_18 := h_rI_17.up hb17
      go_wp2_with fail
      refine (markTransition_g _ (.agg #[.slice rI_A0 D.n rI_c0, .slice rI_A1 D.m rI_c1, .int .i64 D.c, .slice rI_A2 D.l rI_c2]) _ (1) _ h_rI_18 (by omega) (by omega) (by omega) (by omega) (by omega)).mono ?_
      rintro e w19 ⟨rfl, h_rI_19, hg18⟩
      have ht18 : Turned w8.heap.size w9.heap.size w18 w19 := hg18 _ _ h_rI_9.trn rfl rfl rfl
      have hz18 := ht18.size
      have hW19 := hW18.trans ((ht18.below (by omega)).mono (by omega))
      have bw0_19 := ht18.cell bw0_18 (.inl (by omega))
      have bw1_19 := ht18.cell bw1_18 (.inl (by omega))
      have bw2_19 := ht18.cell bw2_18 (.inl (by omega))
      have bw3_19 := ht18.cell bw3_18 (.inl (by omega))
      have bg0_19 := ht18.cell bg0_18 (.inr (by omega))
      have bg1_19 := ht18.cell bg1_18 (.inr (by omega))
      have bg2_19 := ht18.cell bg2_18 (.inr (by omega))
      have bg3_19 := ht18.cell bg3_18 (.inr (by omega))
      go_wp2_with fail
      refine (heldTransition_g (.agg #[.slice rI_A0 D.n rI_c0, .slice rI_A1 D.m rI_c1, .int .i64 D.c, .slice rI_A2 D.l rI_c2]) _ 1 _ h_rI_19.trn (by omega) (by omega) (by omega) (by omega) (by omega)).mono ?_
      rintro e w20 ⟨rfl, hb19⟩
      have hz19 := hb19.size
      have hW20 := up_trans hW19 hb19
      have h_a_12 := h_a_11.up hb11
      have h_a_13 := h_a_12.up hb12
      have h_a_14 := h_a_13.up hb13
      have h_a_15 := h_a_14.up hb14
      have h_a_16 := Spots.turn h_a_6 h_a_15 ht15 (by omega) (by omega)
      have h_a_17 := Spots.turn h_a_7 h_a_16 ht16 (by omega) (by omega)
      have h_a_18 := h_a_17.up hb17
      have h_a_19 := Spots.turn h_a_8 h_a_18 ht18 (by omega) (by omega)
      have h_a_20 := h_a_19.up hb19
      go_wp2_with fail
      refine (toSpotS_g a _ _ _ _ h_a_20 (by omega)).mono ?_
      rintro e w21 ⟨z0, rfl, h_z0_21, hb20⟩
      have hz20 := hb20.size
      have hW21 := up_trans hW20 hb20
      have h_b_14 := h_b_13.up hb13
      have h_b_15 := h_b_14.up hb14
      have h_b_16 := Spots.turn h_b_6 h_b_15 ht15 (by omega) (by omega)
      have h_b_17 := Spots.turn h_b_7 h_b_16 ht16 (by omega) (by omega)
      have h_b_18 := h_b_17.up hb17
      have h_b_19 := Spots.turn h_b_8 h_b_18 ht18 (by omega) (by omega)
      have h_b_20 := h_b_19.up hb19
      have h_b_21 := h_b_20.up hb20
      go_wp2_with fail
      refine (toSpotS_g b _ _ _ _ h_b_21 (by omega)).mono ?_
      rintro e w22 ⟨z1, rfl, h_z1_22, hb21⟩
      have hz21 := hb21.size
      have hW22 := up_trans hW21 hb21
      have h_z0_22 := h_z0_21.up hb21
      go_wp2_with fail
      refine (HI.out z0 z1 _ h_z0_22.spots h_z1_22.spots).mono ?_
      rintro e w23 ⟨rH, rfl, h_rH_23, hb22⟩
      have hz22 := hb22.size
      have hW23 := up_trans hW22 hb22
      obtain ⟨rH_f, rH_t, rH_p, he_rH, g1, g2, g3, _⟩ := id h_rH_23
      obtain ⟨rH_A0, rH_c0, rfl, _⟩ := g1.shape
      obtain ⟨rH_A1, rH_c1, rfl, _⟩ := g2.shape
      obtain ⟨rH_A2, rH_c2, rfl, _⟩ := g3.shape
      subst he_rH
      clear g1 g2 g3
      have bw0_20 := up_keep hb19 bw0_19
      have bw0_21 := up_keep hb20 bw0_20
      have bw0_22 := up_keep hb21 bw0_21
      have bw0_23 := up_keep hb22 bw0_22
      have yy0 := up_keep (below_alloc w23 (.cells #[.slice rH_A0 D.n rH_c0, .slice rH_A1 D.m rH_c1, .int .i64 D.c, .slice rH_A2 D.l rH_c2] 48)) bw0_23
      have bw1_20 := up_keep hb19 bw1_19
      have bw1_21 := up_keep hb20 bw1_20
      have bw1_22 := up_keep hb21 bw1_21
      have bw1_23 := up_keep hb22 bw1_22
      have yy1 := up_keep (below_alloc w23 (.cells #[.slice rH_A0 D.n rH_c0, .slice rH_A1 D.m rH_c1, .int .i64 D.c, .slice rH_A2 D.l rH_c2] 48)) bw1_23
      have bw2_20 := up_keep hb19 bw2_19
      have bw2_21 := up_keep hb20 bw2_20
      have bw2_22 := up_keep hb21 bw2_21
      have bw2_23 := up_keep hb22 bw2_22
      have yy2 := up_keep (below_alloc w23 (.cells #[.slice rH_A0 D.n rH_c0, .slice rH_A1 D.m rH_c1, .int .i64 D.c, .slice rH_A2 D.l rH_c2] 48)) bw2_23
      have bw3_20 := up_keep hb19 bw3_19
      have bw3_21 := up_keep hb20 bw3_20
      have bw3_22 := up_keep hb21 bw3_21
      have bw3_23 := up_keep hb22 bw3_22
      have yy3 := up_keep (below_alloc w23 (.cells #[.slice rH_A0 D.n rH_c0, .slice rH_A1 D.m rH_c1, .int .i64 D.c, .slice rH_A2 D.l rH_c2] 48)) bw3_23
      have bg0_20 := up_keep hb19 bg0_19
      have bg0_21 := up_keep hb20 bg0_20
      have bg0_22 := up_keep hb21 bg0_21
      have bg0_23 := up_keep hb22 bg0_22
      have yy4 := up_keep (below_alloc w23 (.cells #[.slice rH_A0 D.n rH_c0, .slice rH_A1 D.m rH_c1, .int .i64 D.c, .slice rH_A2 D.l rH_c2] 48)) bg0_23
      have bg1_20 := up_keep hb19 bg1_19
      have bg1_21 := up_keep hb20 bg1_20
      have bg1_22 := up_keep hb21 bg1_21
      have bg1_23 := up_keep hb22 bg1_22
      have yy5 := up_keep (below_alloc w23 (.cells #[.slice rH_A0 D.n rH_c0, .slice rH_A1 D.m rH_c1, .int .i64 D.c, .slice rH_A2 D.l rH_c2] 48)) bg1_23
      have bg2_20 := up_keep hb19 bg2_19
      have bg2_21 := up_keep hb20 bg2_20
      have bg2_22 := up_keep hb21 bg2_21
      have bg2_23 := up_keep hb22 bg2_22
      have yy6 := up_keep (below_alloc w23 (.cells #[.slice rH_A0 D.n rH_c0, .slice rH_A1 D.m rH_c1, .int .i64 D.c, .slice rH_A2 D.l rH_c2] 48)) bg2_23
      have bg3_20 := up_keep hb19 bg3_19
      have bg3_21 := up_keep hb20 bg3_20
      have bg3_22 := up_keep hb21 bg3_21
      have bg3_23 := up_keep hb22 bg3_22
      have yy7 := up_keep (below_alloc w23 (.cells #[.slice rH_A0 D.n rH_c0, .slice rH_A1 D.m rH_c1, .int .i64 D.c, .slice rH_A2 D.l rH_c2] 48)) bg3_23
      go_wp2_with fail
      clear yy0 yy1 yy2 yy3 yy4 yy5 yy6 yy7
      obtain ⟨w24, hW⟩ : ∃ W, W = World.alloc w23 (.cells #[.slice rH_A0 D.n rH_c0, .slice rH_A1 D.m rH_c1, .int .i64 D.c, .slice rH_A2 D.l rH_c2] 48) := ⟨_, rfl⟩
      rw [← hW]
      have hb23 : Below w23.heap.size w23 w24 := by rw [hW]; exact below_alloc _ _
      have hs23 : w23.heap.size < w24.heap.size := by rw [hW]; simp
      have bh0 : w24.cell? ⟨w23.heap.size, 0, none⟩ = some (.slice rH_A0 D.n rH_c0) := by rw [hW]; simp [go_sem]
      have bh1 : w24.cell? ⟨w23.heap.size, 1, none⟩ = some (.slice rH_A1 D.m rH_c1) := by rw [hW]; simp [go_sem]
      have bh2 : w24.cell? ⟨w23.heap.size, 2, none⟩ = some (.int .i64 D.c) := by rw [hW]; simp [go_sem]
      have bh3 : w24.cell? ⟨w23.heap.size, 3, none⟩ = some (.slice rH_A2 D.l rH_c2) := by rw [hW]; simp [go_sem]
      clear hW
      have hz23 := hb23.size
      have hW24 := up_trans hW23 hb23
      have bw0_24 := up_keep hb23 bw0_23
      have bw1_24 := up_keep hb23 bw1_23
      have bw2_24 := up_keep hb23 bw2_23
      have bw3_24 := up_keep hb23 bw3_23
      have bg0_24 := up_keep hb23 bg0_23
      have bg1_24 := up_keep hb23 bg1_23
      have bg2_24 := up_keep hb23 bg2_23
      have bg3_24 := up_keep hb23 bg3_23
      have h_rH_24 := h_rH_23.up hb23
      have h_rS_18 := h_rS_17.up hb17
      have h_rS_19 := Trn.turn h_rS_8.trn rfl rfl rfl h_rS_18 ht18 (by omega) (by omega)
      have h_rS_20 := h_rS_19.up hb19
      have h_rS_21 := h_rS_20.up hb20
      have h_rS_22 := h_rS_21.up hb21
      have h_rS_23 := h_rS_22.up hb22
      have h_rS_24 := h_rS_23.up hb23
      refine (eqTransition_g (.agg #[.slice rH_A0 D.n rH_c0, .slice rH_A1 D.m rH_c1, .int .i64 D.c, .slice rH_A2 D.l rH_c2]) (.agg #[.slice rS_A0 D.n rS_c0, .slice rS_A1 D.m rS_c1, .int .i64 D.c, .slice rS_A2 D.l rS_c2]) _ _ h_rH_24.trn h_rS_24 (by omega) (by omega) (by omega)).mono ?_
      rintro e w25 ⟨rfl, hb24⟩
      have hz24 := hb24.size
      have hW25 := up_trans hW24 hb24
      have bw0_25 := up_keep hb24 bw0_24
      have bw1_25 := up_keep hb24 bw1_24
      have bw2_25 := up_keep hb24 bw2_24
      have bw3_25 := up_keep hb24 bw3_24
      have bg0_25 := up_keep hb24 bg0_24
      have bg1_25 := up_keep hb24 bg1_24
      have bg2_25 := up_keep hb24 bg2_24
      have bg3_25 := up_keep hb24 bg3_24
      have bh0_25 := up_keep hb24 bh0
      have bh1_25 := up_keep hb24 bh1
      have bh2_25 := up_keep hb24 bh2
      have bh3_25 := up_keep hb24 bh3
      have h_rI_20 := h_rI_19.up hb19
      have h_rI_21 := h_rI_20.up hb20
      have h_rI_22 := h_rI_21.up hb21
      have h_rI_23 := h_rI_22.up hb22
      have h_rI_24 := h_rI_23.up hb23
      have h_rI_25 := h_rI_24.up hb24
      go_wp2_with fail
      refine (heldTransition_g (.agg #[.slice rI_A0 D.n rI_c0, .slice rI_A1 D.m rI_c1, .int .i64 D.c, .slice rI_A2 D.l rI_c2]) _ 1 _ h_rI_25.trn (by omega) (by omega) (by omega) (by omega) (by omega)).mono ?_
      rintro e w26 ⟨rfl, hb25⟩
      have hz25 := hb25.size
      have hW26 := up_trans hW25 hb25
      go_wp2_with fail
      go_ret
      exact Ans.bool rfl hW26
    · have HZ2 := szV_neg (left := 1048576 - n) (n := m) hl2
      go_enter Try.func13, Try.ntmps13
      go_wp2_with fail
      refine (szSpotS_g a n X Y _ _ ha (by omega) (by omega) hn).mono ?_
      rintro e w1 ⟨rfl, hb0⟩
      have hb1 := hb.up hb0
      go_wp2_with fail
      refine (szSpotS_g b m U V _ _ hb1 (by omega) (by omega) hm).mono ?_
      rintro e w2 ⟨rfl, hb2⟩
      go_wp2_with fail
      go_ret
      exact Ans.bool rfl (up_trans hb0 hb2)
  · have HZ := szV_neg (left := 1048576) (n := n) hl
    go_enter Try.func13, Try.ntmps13
    go_wp2_with fail
    refine (szSpotS_g a n X Y _ _ ha (by omega) (by omega) hn).mono ?_
    rintro e w1 ⟨rfl, hb0⟩
    go_wp2_with fail
    go_ret
    exact Ans.bool rfl hb0

set_option maxRecDepth 100000 in
theorem fnExactLeastTransition_law : LawWalk Try.prog 13 Try.f13 := by
  intro H enc W base args ds ps hval hA
  rw [Try.params13] at hval hA
  obtain ⟨v0, v1, v2, d0, d1, d2, p0, p1, p2, rfl, h0, h1, h2⟩ := args3 hA
  obtain ⟨n, X, Y, hs, hn⟩ := open_spots (hval 0 _ v0 rfl rfl) h0
  obtain ⟨m, U, V, hs', hm⟩ := open_spots (hval 1 _ v1 rfl rfl) h1
  obtain ⟨c, rfl, _⟩ := open_int Try.underlying3 (hval 2 _ v2 rfl rfl) h2
  exact fnExactLeastTransition_walk v0 v1 n m X Y U V c hn hm W hs hs'

set_option maxRecDepth 100000 in
set_option maxHeartbeats 4000000 in
theorem fnExactLeastTransition_wit (os : Os) (H : Type) (enc : TypeId × Value → H) : ∃ (w : World) (tape : Tape) (i : Input), w.os = os ∧ (w.forCall tape i).Shaped Try.checked.prog ∧ i.vars = [] ∧ Input.okWide Try.checked.prog (w.forCall tape i) .any w.heap.size 13 i ∧
      Rows.fnExactLeastTransitionSpec.pre6 enc Try.checked.prog Try.f13 [] false (w.forCall tape i).memory i.args ∧ ({} : Assume).holds Try.checked.prog (lone (Frame.enter Try.checked.prog 13 i.args .normal) [] (w.forCall tape i)) :=
  ChangeSpec.witness6 (enc := enc) (C := Try.checked) false ⟨#[], #[.slice none 0 0, .slice none 0 0, .int .i64 0], []⟩ 8 (by kernel_rfl) (by kernel_rfl) (by kernel_rfl) (by kernel_rfl)

set_option maxRecDepth 100000 in
set_option maxHeartbeats 4000000 in
theorem fnExactLeastTransition_row (os : Os) (started : os.Started) (H : Type) (enc : TypeId × Value → H) :
    ReturnsInHanded {} Try.checked os 13 .any (Rows.fnExactLeastTransitionSpec.pre6 enc Try.checked.prog Try.f13 [] false) (Rows.fnExactLeastTransitionSpec.post enc Try.checked.prog Try.f13 false true false false) :=
  lifted_of (C := Try.checked) (s := Rows.fnExactLeastTransitionSpec) (tb := 4) (by kernel_rfl) (by kernel_rfl) (by kernel_rfl) (by kernel_rfl) Try.func13 rfl Try.underlying4 rfl
      (fun H ds h => by
        have h2 : ds.length = 3 := by rw [Try.params13] at h; exact h
        match ds, h2 with
        | [_, _, _], _ => rfl)
      fnExactLeastTransition_law os started H enc (fnExactLeastTransition_wit os H enc)

set_option maxRecDepth 100000 in
set_option maxHeartbeats 4000000 in
theorem fnExactLeastTransition_holds : Rows.FnExactLeastTransitionSaid :=
  OpenClaim.holds_of_wide 13 Try.f13 rfl rfl rfl rfl rfl rfl rfl ⟨rfl, rfl, rfl, rfl, rfl⟩ rfl rfl rfl rfl rfl (by kernel_rfl) Try.func13 (by kernel_rfl)
    (of_decide_eq_true (by kernel_rfl)) (by unfold Func.isWrapper; first | (rw [if_pos (by decide +kernel)]; kernel_rfl) | (rw [if_neg (by decide +kernel)]; exact ⟨rfl, rfl⟩))
    (fun os started H enc _ => fnExactLeastTransition_row os started H enc)

#print axioms fnExactLeastTransition_holds
end Go.Proofs.Ytamoanhjajnahaa
