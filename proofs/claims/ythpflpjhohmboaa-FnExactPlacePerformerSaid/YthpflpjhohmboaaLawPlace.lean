/-
  FnExactPlacePerformer: for all arguments the law returns true, and its arguments read afterwards as before. No condition.
-/
import Derived.Test.YthpflpjhohmboaaRows
import Derived.Test.YthpflpjhohmboaaBase
import Derived.Test.YthpflpjhohmboaaSpot
import Derived.Test.YthpflpjhohmboaaSlice
import Derived.Test.YthpflpjhohmboaaChart
import Derived.Test.YthpflpjhohmboaaForm
import Derived.Test.YthpflpjhohmboaaLawS
import Derived.Test.YthpflpjhohmboaaMark
import Derived.Test.YthpflpjhohmboaaOpen
import Derived.Test.YthpflpjhohmboaaTrod
import Derived.Test.YthpflpjhohmboaaSwap
import Derived.Test.YthpflpjhohmboaaPlace
import Derived.Deep.RegionHeld3
namespace Go.Proofs.Ythpflpjhohmboaa
open Go.RowKit Go.Sort Go.ChangeShapes Go.WideShapes

set_option maxHeartbeats 8000000 in
theorem fnExactPlacePerformer_walk (v : Value) (n : Nat) (X Y : Nat → Int) (i x y : Int) (hn : n ≤ 9223372036854775807) (w : World) (h : Spots w v n X Y) :
    Calls Try.prog 11 #[v, .int .i64 i, .agg #[.int .i64 x, .int .i64 y]] w (Ans w (.bool true)) := by
  by_cases hl : n ≤ 1048576
  · have HZ := szV_pos (left := 1048576) (n := n) (by omega)
    have hm := sel_le (plB n X Y i x y) n
    have HS := fun v w' (hw : Spots w' v n X Y) => sPlace_any v n X Y i x y w' hw hl
    have HI := fun v w' (hw : Spots w' v n X Y) => iPlace_any v n X Y i x y w' hw hl
    generalize plB n X Y i x y = q at *
    generalize sel q n = m at *
    generalize plX i.toNat x X = U at *
    generalize plX i.toNat y Y = V at *
    go_enter Try.func11, Try.ntmps11
    go_wp2_with fail
    generalize hW : World.alloc w _ = W at *
    have hbW : Below w.heap.size w W := by subst hW; (repeat (first | with_reducible exact Below.refl _ _ | with_reducible assumption | with_reducible refine up_alloc ?_ _ | with_reducible refine up_drew ?_ | with_reducible refine up_drewN ?_ _ | (with_reducible refine up_set ?_ ?hset _; case hset => first | (simp; done) | (simp; omega) | omega) | with_reducible refine up_trans ?_ (by with_reducible assumption)))
    have k0 : W.cell? ⟨w.heap.size, 0, none⟩ = some (.int .i64 x) := by subst hW; simp [go_sem]
    have k1 : W.cell? ⟨w.heap.size, 1, none⟩ = some (.int .i64 y) := by subst hW; simp [go_sem]
    clear hW
    replace h := h.up hbW
    have hW0 := Below.refl W.heap.size W
    refine (szSpotS_g v _ _ _ _ _ h (by omega) (by omega) (by omega)).mono ?_
    rintro e w1 ⟨rfl, hb0⟩
    have hz0 := hb0.size
    have hW1 := up_trans hW0 hb0
    go_wp2_with fail
    have k0_1 := up_keep hb0 k0
    have k1_1 := up_keep hb0 k1
    have h_v_1 := h.up hb0
    go_region_held3 (fun w' => w'.cell? ⟨w.heap.size, 0, none⟩ = some (.int .i64 x) ∧ w'.cell? ⟨w.heap.size, 1, none⟩ = some (.int .i64 y)) (first | exact ⟨by assumption, by assumption⟩ | go_keep) (first | (go_at_call 17; refine (toSpotS_g v _ _ _ _ (by first | exact Spots.up (by with_reducible assumption) (by (repeat (first | with_reducible exact Below.refl _ _ | with_reducible assumption | with_reducible refine up_alloc ?_ _ | with_reducible refine up_drew ?_ | with_reducible refine up_drewN ?_ _ | (with_reducible refine up_set ?_ ?hset _; case hset => first | (simp; done) | (simp; omega) | omega) | with_reducible refine up_trans ?_ (by with_reducible assumption)))) | exact OwnS.spots (OwnS.up (by with_reducible assumption) (by (repeat (first | with_reducible exact Below.refl _ _ | with_reducible assumption | with_reducible refine up_alloc ?_ _ | with_reducible refine up_drew ?_ | with_reducible refine up_drewN ?_ _ | (with_reducible refine up_set ?_ ?hset _; case hset => first | (simp; done) | (simp; omega) | omega) | with_reducible refine up_trans ?_ (by with_reducible assumption)))))) (by omega)).mono ?_; rintro e wt ⟨tt, rfl, hot, hbt⟩; have hk0 := up_keep (show Below w1.heap.size w1 wt from (by (repeat (first | with_reducible exact Below.refl _ _ | with_reducible assumption | with_reducible refine up_alloc ?_ _ | with_reducible refine up_drew ?_ | with_reducible refine up_drewN ?_ _ | (with_reducible refine up_set ?_ ?hset _; case hset => first | (simp; done) | (simp; omega) | omega) | with_reducible refine up_trans ?_ (by with_reducible assumption))))) k0_1; have hk1 := up_keep (show Below w1.heap.size w1 wt from (by (repeat (first | with_reducible exact Below.refl _ _ | with_reducible assumption | with_reducible refine up_alloc ?_ _ | with_reducible refine up_drew ?_ | with_reducible refine up_drewN ?_ _ | (with_reducible refine up_set ?_ ?hset _; case hset => first | (simp; done) | (simp; omega) | omega) | with_reducible refine up_trans ?_ (by with_reducible assumption))))) k1_1) | (go_at_call 29; refine (toSpot_any _ _ _).mono ?_; rintro e wt ⟨rfl, hbt⟩; have hk0 := up_keep (show Below w1.heap.size w1 wt from (by (repeat (first | with_reducible exact Below.refl _ _ | with_reducible assumption | with_reducible refine up_alloc ?_ _ | with_reducible refine up_drew ?_ | with_reducible refine up_drewN ?_ _ | (with_reducible refine up_set ?_ ?hset _; case hset => first | (simp; done) | (simp; omega) | omega) | with_reducible refine up_trans ?_ (by with_reducible assumption))))) k0_1; have hk1 := up_keep (show Below w1.heap.size w1 wt from (by (repeat (first | with_reducible exact Below.refl _ _ | with_reducible assumption | with_reducible refine up_alloc ?_ _ | with_reducible refine up_drew ?_ | with_reducible refine up_drewN ?_ _ | (with_reducible refine up_set ?_ ?hset _; case hset => first | (simp; done) | (simp; omega) | omega) | with_reducible refine up_trans ?_ (by with_reducible assumption))))) k1_1) | (go_at_call 38; refine (HS _ _ (by first | exact Spots.up (by with_reducible assumption) (by (repeat (first | with_reducible exact Below.refl _ _ | with_reducible assumption | with_reducible refine up_alloc ?_ _ | with_reducible refine up_drew ?_ | with_reducible refine up_drewN ?_ _ | (with_reducible refine up_set ?_ ?hset _; case hset => first | (simp; done) | (simp; omega) | omega) | with_reducible refine up_trans ?_ (by with_reducible assumption)))) | exact OwnS.spots (OwnS.up (by with_reducible assumption) (by (repeat (first | with_reducible exact Below.refl _ _ | with_reducible assumption | with_reducible refine up_alloc ?_ _ | with_reducible refine up_drew ?_ | with_reducible refine up_drewN ?_ _ | (with_reducible refine up_set ?_ ?hset _; case hset => first | (simp; done) | (simp; omega) | omega) | with_reducible refine up_trans ?_ (by with_reducible assumption))))))).mono ?_; rintro e w2 ⟨rS, rfl, h0, hbt⟩; have h_rS_2 := OwnS.more h0 (show Below w1.heap.size w1 _ from (by (repeat (first | with_reducible exact Below.refl _ _ | with_reducible assumption | with_reducible refine up_alloc ?_ _ | with_reducible refine up_drew ?_ | with_reducible refine up_drewN ?_ _ | (with_reducible refine up_set ?_ ?hset _; case hset => first | (simp; done) | (simp; omega) | omega) | with_reducible refine up_trans ?_ (by with_reducible assumption))))).size; have hb1 := (show Below w1.heap.size w1 w2 from (by (repeat (first | with_reducible exact Below.refl _ _ | with_reducible assumption | with_reducible refine up_alloc ?_ _ | with_reducible refine up_drew ?_ | with_reducible refine up_drewN ?_ _ | (with_reducible refine up_set ?_ ?hset _; case hset => first | (simp; done) | (simp; omega) | omega) | with_reducible refine up_trans ?_ (by with_reducible assumption))))); have hk0 := up_keep hb1 k0_1; have hk1 := up_keep hb1 k1_1; clear h0))
    all_goals
      have hz1 := hb1.size
      have hW2 := up_trans hW1 hb1
      have h_v_2 := h_v_1.up hb1
      go_wp2_with fail
      refine (toSpotS_g v _ _ _ _ h_v_2 (by omega)).mono ?_
      rintro e w3 ⟨x0, rfl, h_x0_3, hb2⟩
      have hz2 := hb2.size
      have hW3 := up_trans hW2 hb2
      have k0_2 := up_keep hb1 k0_1
      have k0_3 := up_keep hb2 k0_2
      have k1_2 := up_keep hb1 k1_1
      have k1_3 := up_keep hb2 k1_2
      go_wp2_with fail
      refine (toSpot_any _ _ _).mono ?_
      rintro e w4 ⟨rfl, hb3⟩
      have hz3 := hb3.size
      have hW4 := up_trans hW3 hb3
      have h_x0_4 := h_x0_3.up hb3
      go_wp2_with fail
      refine (HI x0 _ h_x0_4.spots).mono ?_
      rintro e w5 ⟨rI, rfl, h_rI_5, hb4⟩
      have hz4 := hb4.size
      have hW5 := up_trans hW4 hb4
      have h_rS_3 := h_rS_2.up hb2
      have h_rS_4 := h_rS_3.up hb3
      have h_rS_5 := h_rS_4.up hb4
      go_wp2_with fail
      refine (eqSpotS_g rI rS _ _ _ _ h_rI_5.spots h_rS_5.spots (by omega)).mono ?_
      rintro e w6 ⟨rfl, hb5⟩
      have hz5 := hb5.size
      have hW6 := up_trans hW5 hb5
      have h_v_3 := h_v_2.up hb2
      have h_v_4 := h_v_3.up hb3
      have h_v_5 := h_v_4.up hb4
      have h_v_6 := h_v_5.up hb5
      go_wp2_with fail
      refine (toSpotS_g v _ _ _ _ h_v_6 (by omega)).mono ?_
      rintro e w7 ⟨y0, rfl, h_y0_7, hb6⟩
      have hz6 := hb6.size
      have hW7 := up_trans hW6 hb6
      have h_x0_5 := h_x0_4.up hb4
      have h_x0_6 := h_x0_5.up hb5
      have h_x0_7 := h_x0_6.up hb6
      go_wp2_with fail
      refine (eqSpotS_g x0 y0 _ _ _ _ h_x0_7.spots h_y0_7.spots (by omega)).mono ?_
      rintro e w8 ⟨rfl, hb7⟩
      have hz7 := hb7.size
      have hW8 := up_trans hW7 hb7
      have h_x0_8 := h_x0_7.up hb7
      go_wp2_with fail
      refine (markSpotS_g _ x0 _ _ _ (1) _ h_x0_8 (by omega) (by omega) (by omega)).mono ?_
      rintro e w9 ⟨rfl, hg8, h_x0_9⟩
      have hz8 := hg8.size
      have hB8 : Below w2.heap.size w8 w9 := below_old h_x0_8 hg8 (by omega)
      have hW9 := hW8.trans (hB8.mono (by omega))
      have h_rI_6 := h_rI_5.up hb5
      have h_rI_7 := h_rI_6.up hb6
      have h_rI_8 := h_rI_7.up hb7
      have h_rI_9 := OwnS.young h_rI_8 h_x0_3.spots (by omega) hg8
      have h_rS_6 := h_rS_5.up hb5
      have h_rS_7 := h_rS_6.up hb6
      have h_rS_8 := h_rS_7.up hb7
      have h_rS_9 := Spots.old h_rS_2.spots h_rS_8.spots hB8
      go_wp2_with fail
      refine (eqSpotS_g rI rS _ _ _ _ h_rI_9.spots h_rS_9 (by omega)).mono ?_
      rintro e w10 ⟨rfl, hb9⟩
      have hz9 := hb9.size
      have hW10 := up_trans hW9 hb9
      have h_rI_10 := h_rI_9.up hb9
      go_wp2_with fail
      refine (markSpotS_g _ rI _ _ _ 1 _ h_rI_10 (by omega) (by omega) (by omega)).mono ?_
      rintro e w11 ⟨rfl, hg10, h_rI_11⟩
      have hz10 := hg10.size
      have hB10 : Below w4.heap.size w10 w11 := below_old h_rI_10 hg10 (by omega)
      have hW11 := hW10.trans (hB10.mono (by omega))
      go_wp2_with fail
      refine (heldSpotS_g rI _ 1 _ h_rI_11.spots (by omega) (by omega) (by omega)).mono ?_
      rintro e w12 ⟨rfl, hb11⟩
      have hz11 := hb11.size
      have hW12 := up_trans hW11 hb11
      go_wp2_with fail
      have k0_4 := up_keep hb3 k0_3
      have k0_5 := up_keep hb4 k0_4
      have k0_6 := up_keep hb5 k0_5
      have k0_7 := up_keep hb6 k0_6
      have k0_8 := up_keep hb7 k0_7
      have k0_9 := cell_old k0_2 k0_8 hB8
      have k0_10 := up_keep hb9 k0_9
      have k0_11 := cell_old k0_4 k0_10 hB10
      have k0_12 := up_keep hb11 k0_11
      have k1_4 := up_keep hb3 k1_3
      have k1_5 := up_keep hb4 k1_4
      have k1_6 := up_keep hb5 k1_5
      have k1_7 := up_keep hb6 k1_6
      have k1_8 := up_keep hb7 k1_7
      have k1_9 := cell_old k1_2 k1_8 hB8
      have k1_10 := up_keep hb9 k1_9
      have k1_11 := cell_old k1_4 k1_10 hB10
      have k1_12 := up_keep hb11 k1_11
      have h_v_7 := h_v_6.up hb6
      have h_v_8 := h_v_7.up hb7
      have h_v_9 := Spots.old h_v_2 h_v_8 hB8
      have h_v_10 := h_v_9.up hb9
      have h_v_11 := Spots.old h_v_4 h_v_10 hB10
      have h_v_12 := h_v_11.up hb11
      go_region_held3 (fun w' => w'.cell? ⟨w.heap.size, 0, none⟩ = some (.int .i64 x) ∧ w'.cell? ⟨w.heap.size, 1, none⟩ = some (.int .i64 y)) (first | exact ⟨by assumption, by assumption⟩ | go_keep) (first | (go_at_call 17; refine (toSpotS_g v _ _ _ _ (by first | exact Spots.up (by with_reducible assumption) (by (repeat (first | with_reducible exact Below.refl _ _ | with_reducible assumption | with_reducible refine up_alloc ?_ _ | with_reducible refine up_drew ?_ | with_reducible refine up_drewN ?_ _ | (with_reducible refine up_set ?_ ?hset _; case hset => first | (simp; done) | (simp; omega) | omega) | with_reducible refine up_trans ?_ (by with_reducible assumption)))) | exact OwnS.spots (OwnS.up (by with_reducible assumption) (by (repeat (first | with_reducible exact Below.refl _ _ | with_reducible assumption | with_reducible refine up_alloc ?_ _ | with_reducible refine up_drew ?_ | with_reducible refine up_drewN ?_ _ | (with_reducible refine up_set ?_ ?hset _; case hset => first | (simp; done) | (simp; omega) | omega) | with_reducible refine up_trans ?_ (by with_reducible assumption)))))) (by omega)).mono ?_; rintro e wt ⟨tt, rfl, hot, hbt⟩; have hk0 := up_keep (show Below w12.heap.size w12 wt from (by (repeat (first | with_reducible exact Below.refl _ _ | with_reducible assumption | with_reducible refine up_alloc ?_ _ | with_reducible refine up_drew ?_ | with_reducible refine up_drewN ?_ _ | (with_reducible refine up_set ?_ ?hset _; case hset => first | (simp; done) | (simp; omega) | omega) | with_reducible refine up_trans ?_ (by with_reducible assumption))))) k0_12; have hk1 := up_keep (show Below w12.heap.size w12 wt from (by (repeat (first | with_reducible exact Below.refl _ _ | with_reducible assumption | with_reducible refine up_alloc ?_ _ | with_reducible refine up_drew ?_ | with_reducible refine up_drewN ?_ _ | (with_reducible refine up_set ?_ ?hset _; case hset => first | (simp; done) | (simp; omega) | omega) | with_reducible refine up_trans ?_ (by with_reducible assumption))))) k1_12) | (go_at_call 29; refine (toSpot_any _ _ _).mono ?_; rintro e wt ⟨rfl, hbt⟩; have hk0 := up_keep (show Below w12.heap.size w12 wt from (by (repeat (first | with_reducible exact Below.refl _ _ | with_reducible assumption | with_reducible refine up_alloc ?_ _ | with_reducible refine up_drew ?_ | with_reducible refine up_drewN ?_ _ | (with_reducible refine up_set ?_ ?hset _; case hset => first | (simp; done) | (simp; omega) | omega) | with_reducible refine up_trans ?_ (by with_reducible assumption))))) k0_12; have hk1 := up_keep (show Below w12.heap.size w12 wt from (by (repeat (first | with_reducible exact Below.refl _ _ | with_reducible assumption | with_reducible refine up_alloc ?_ _ | with_reducible refine up_drew ?_ | with_reducible refine up_drewN ?_ _ | (with_reducible refine up_set ?_ ?hset _; case hset => first | (simp; done) | (simp; omega) | omega) | with_reducible refine up_trans ?_ (by with_reducible assumption))))) k1_12) | (go_at_call 39; refine (HI _ _ (by first | exact Spots.up (by with_reducible assumption) (by (repeat (first | with_reducible exact Below.refl _ _ | with_reducible assumption | with_reducible refine up_alloc ?_ _ | with_reducible refine up_drew ?_ | with_reducible refine up_drewN ?_ _ | (with_reducible refine up_set ?_ ?hset _; case hset => first | (simp; done) | (simp; omega) | omega) | with_reducible refine up_trans ?_ (by with_reducible assumption)))) | exact OwnS.spots (OwnS.up (by with_reducible assumption) (by (repeat (first | with_reducible exact Below.refl _ _ | with_reducible assumption | with_reducible refine up_alloc ?_ _ | with_reducible refine up_drew ?_ | with_reducible refine up_drewN ?_ _ | (with_reducible refine up_set ?_ ?hset _; case hset => first | (simp; done) | (simp; omega) | omega) | with_reducible refine up_trans ?_ (by with_reducible assumption))))))).mono ?_; rintro e w13 ⟨rH, rfl, h0, hbt⟩; have h_rH_13 := OwnS.more h0 (show Below w12.heap.size w12 _ from (by (repeat (first | with_reducible exact Below.refl _ _ | with_reducible assumption | with_reducible refine up_alloc ?_ _ | with_reducible refine up_drew ?_ | with_reducible refine up_drewN ?_ _ | (with_reducible refine up_set ?_ ?hset _; case hset => first | (simp; done) | (simp; omega) | omega) | with_reducible refine up_trans ?_ (by with_reducible assumption))))).size; have hb12 := (show Below w12.heap.size w12 w13 from (by (repeat (first | with_reducible exact Below.refl _ _ | with_reducible assumption | with_reducible refine up_alloc ?_ _ | with_reducible refine up_drew ?_ | with_reducible refine up_drewN ?_ _ | (with_reducible refine up_set ?_ ?hset _; case hset => first | (simp; done) | (simp; omega) | omega) | with_reducible refine up_trans ?_ (by with_reducible assumption))))); have hk0 := up_keep hb12 k0_12; have hk1 := up_keep hb12 k1_12; clear h0))
      all_goals
        have hz12 := hb12.size
        have hW13 := up_trans hW12 hb12
        have h_rS_10 := h_rS_9.up hb9
        have h_rS_11 := Spots.old h_rS_4.spots h_rS_10 hB10
        have h_rS_12 := h_rS_11.up hb11
        have h_rS_13 := h_rS_12.up hb12
        go_wp2_with fail
        refine (eqSpotS_g rH rS _ _ _ _ h_rH_13.spots h_rS_13 (by omega)).mono ?_
        rintro e w14 ⟨rfl, hb13⟩
        have hz13 := hb13.size
        have hW14 := up_trans hW13 hb13
        have h_rI_12 := h_rI_11.up hb11
        have h_rI_13 := h_rI_12.up hb12
        have h_rI_14 := h_rI_13.up hb13
        go_wp2_with fail
        refine (heldSpotS_g rI _ 1 _ h_rI_14.spots (by omega) (by omega) (by omega)).mono ?_
        rintro e w15 ⟨rfl, hb14⟩
        have hz14 := hb14.size
        have hW15 := up_trans hW14 hb14
        go_wp2_with fail
        go_ret
        exact Ans.bool rfl (hbW.trans (hW15.mono hbW.size))
  · have HZ := szV_neg (left := 1048576) (n := n) (by omega)
    go_enter Try.func11, Try.ntmps11
    go_wp2_with ((go_at_call 15; refine (szSpotS_g _ _ _ _ _ _ (by first | exact Spots.up (by with_reducible assumption) (by (repeat (first | with_reducible exact Below.refl _ _ | with_reducible assumption | with_reducible refine up_alloc ?_ _ | with_reducible refine up_drew ?_ | with_reducible refine up_drewN ?_ _ | (with_reducible refine up_set ?_ ?hset _; case hset => first | (simp; done) | (simp; omega) | omega) | with_reducible refine up_trans ?_ (by with_reducible assumption)))) | exact OwnS.spots (OwnS.up (by with_reducible assumption) (by (repeat (first | with_reducible exact Below.refl _ _ | with_reducible assumption | with_reducible refine up_alloc ?_ _ | with_reducible refine up_drew ?_ | with_reducible refine up_drewN ?_ _ | (with_reducible refine up_set ?_ ?hset _; case hset => first | (simp; done) | (simp; omega) | omega) | with_reducible refine up_trans ?_ (by with_reducible assumption)))))) (by omega) (by omega) (by omega)).mono ?_; rintro e w1 ⟨rfl, hb⟩))
    go_ret
    exact Ans.bool rfl (by (repeat (first | with_reducible exact Below.refl _ _ | with_reducible assumption | with_reducible refine up_alloc ?_ _ | with_reducible refine up_drew ?_ | with_reducible refine up_drewN ?_ _ | (with_reducible refine up_set ?_ ?hset _; case hset => first | (simp; done) | (simp; omega) | omega) | with_reducible refine up_trans ?_ (by with_reducible assumption))))

theorem fnExactPlacePerformer_law : LawWalk Try.prog 11 Try.f11 := by
  intro H enc W base args ds ps hval hA
  rw [Try.params11] at hval hA
  obtain ⟨v0, v1, v2, d0, d1, d2, p0, p1, p2, rfl, h0, h1, h2⟩ := args3 hA
  obtain ⟨n, X, Y, hs, hn⟩ := open_spots (hval 0 _ v0 rfl rfl) h0
  obtain ⟨a, rfl, _⟩ := open_int Try.underlying3 (hval 1 _ v1 rfl rfl) h1
  obtain ⟨x, y, rfl⟩ := open_spot (hval 2 _ v2 rfl rfl) h2
  exact fnExactPlacePerformer_walk v0 n X Y a x y hn W hs

set_option maxRecDepth 100000 in
theorem fnExactPlacePerformer_holds : Rows.FnExactPlacePerformerSaid :=
  OpenClaim.holds_of_wide 11 Try.f11 rfl rfl rfl rfl rfl rfl rfl ⟨rfl, rfl, rfl, rfl, rfl⟩ rfl rfl rfl rfl rfl (by kernel_rfl) Try.func11 (by kernel_rfl)
    (of_decide_eq_true (by kernel_rfl)) (by unfold Func.isWrapper; first | (rw [if_pos (by decide +kernel)]; kernel_rfl) | (rw [if_neg (by decide +kernel)]; exact ⟨rfl, rfl⟩))
    (fun os started H enc _ => lifted_of (C := Try.checked) (s := Rows.fnExactPlacePerformerSpec) (tb := 4) (by kernel_rfl) (by kernel_rfl) (by kernel_rfl) (by kernel_rfl) Try.func11 rfl Try.underlying4 rfl
      (fun H ds h => by
        have h2 : ds.length = 3 := by rw [Try.params11] at h; exact h
        match ds, h2 with
        | [_, _, _], _ => rfl)
      fnExactPlacePerformer_law os started H enc
      (ChangeSpec.witness6 (enc := enc) (C := Try.checked) false ⟨#[], #[.slice none 0 0, .int .i64 0, .agg #[.int .i64 0, .int .i64 0]], []⟩ 8 (by kernel_rfl) (by kernel_rfl) (by kernel_rfl) (by kernel_rfl)))

#print axioms fnExactPlacePerformer_holds
end Go.Proofs.Ythpflpjhohmboaa
