/-
  FnExactChangedSpots: for all arguments the law returns true, and its arguments read afterwards as before. No condition.
-/
import Derived.Test.YthpflpjhohmboaaRows
import Derived.Test.YthpflpjhohmboaaBase
import Derived.Test.YthpflpjhohmboaaSpot
import Derived.Test.YthpflpjhohmboaaSlice
import Derived.Test.YthpflpjhohmboaaChart
import Derived.Test.YthpflpjhohmboaaForm
import Derived.Test.YthpflpjhohmboaaLawS
import Derived.Test.YthpflpjhohmboaaMark
import Derived.Test.YthpflpjhohmboaaOpen
import Derived.Test.YthpflpjhohmboaaInts
import Derived.Test.YthpflpjhohmboaaIntsL
import Derived.Test.YthpflpjhohmboaaChanged
namespace Go.Proofs.Ythpflpjhohmboaa
open Go.RowKit Go.Sort Go.ChangeShapes Go.WideShapes

set_option maxHeartbeats 4000000 in
theorem fnExactChangedSpots_walk (v v' : Value) (n m : Nat) (X Y X' Y' : Nat → Int) (hn : n ≤ 9223372036854775807) (hm : m ≤ 9223372036854775807) (w : World) (h : Spots w v n X Y) (h' : Spots w v' m X' Y') :
    Calls Try.prog 13 #[v, v'] w (Ans w (.bool true)) := by
  by_cases hl : n ≤ 1048576
  · have HZ := szV_pos (left := 1048576) (n := n) (by omega)
    by_cases hl' : n + m ≤ 1048576
    · have HZ' := szV_pos (left := 1048576 - n) (n := m) (by omega)
      have hN := cgN_le n X Y m X' Y'
      have HS := fun v v' w' (a : Spots w' v n X Y) (b : Spots w' v' m X' Y') => sChanged_any v v' n m X Y X' Y' w' a b (by omega) (by omega)
      have HI := fun v v' w' (a : Spots w' v n X Y) (b : Spots w' v' m X' Y') => iChanged_any v v' n m X Y X' Y' w' a b (by omega) (by omega)
      generalize cpB n X Y m X' Y' = q at *
      generalize cgN n X Y m X' Y' = N at *
      generalize cgX n X Y X' Y' = U at *
      go_enter Try.func13, Try.ntmps13
      have hW0 := Below.refl w.heap.size w
      go_wp2_with fail
      refine (szSpotS_g v _ _ _ _ _ h (by omega) (by omega) (by omega)).mono ?_
      rintro e w1 ⟨rfl, hb0⟩
      have hz0 := hb0.size
      have hW1 := up_trans hW0 hb0
      have h_v'_1 := h'.up hb0
      go_wp2_with fail
      refine (szSpotS_g v' _ _ _ _ _ h_v'_1 (by omega) (by omega) (by omega)).mono ?_
      rintro e w2 ⟨rfl, hb1⟩
      have hz1 := hb1.size
      have hW2 := up_trans hW1 hb1
      have h_v_1 := h.up hb0
      have h_v_2 := h_v_1.up hb1
      go_wp2_with fail
      refine (toSpotS_g v _ _ _ _ h_v_2 (by omega)).mono ?_
      rintro e w3 ⟨t0, rfl, h_t0_3, hb2⟩
      have hz2 := hb2.size
      have hW3 := up_trans hW2 hb2
      have h_v'_2 := h_v'_1.up hb1
      have h_v'_3 := h_v'_2.up hb2
      go_wp2_with fail
      refine (toSpotS_g v' _ _ _ _ h_v'_3 (by omega)).mono ?_
      rintro e w4 ⟨t1, rfl, h_t1_4, hb3⟩
      have hz3 := hb3.size
      have hW4 := up_trans hW3 hb3
      have h_t0_4 := h_t0_3.up hb3
      go_wp2_with fail
      refine (HS t0 t1 _ h_t0_4.spots h_t1_4.spots).mono ?_
      rintro e w5 ⟨rS, rfl, h_rS_5, hb4⟩
      have hz4 := hb4.size
      have hW5 := up_trans hW4 hb4
      have h_v_3 := h_v_2.up hb2
      have h_v_4 := h_v_3.up hb3
      have h_v_5 := h_v_4.up hb4
      go_wp2_with fail
      refine (toSpotS_g v _ _ _ _ h_v_5 (by omega)).mono ?_
      rintro e w6 ⟨x0, rfl, h_x0_6, hb5⟩
      have hz5 := hb5.size
      have hW6 := up_trans hW5 hb5
      have h_v'_4 := h_v'_3.up hb3
      have h_v'_5 := h_v'_4.up hb4
      have h_v'_6 := h_v'_5.up hb5
      go_wp2_with fail
      refine (toSpotS_g v' _ _ _ _ h_v'_6 (by omega)).mono ?_
      rintro e w7 ⟨x1, rfl, h_x1_7, hb6⟩
      have hz6 := hb6.size
      have hW7 := up_trans hW6 hb6
      have h_x0_7 := h_x0_6.up hb6
      go_wp2_with fail
      refine (HI x0 x1 _ h_x0_7.spots h_x1_7.spots).mono ?_
      rintro e w8 ⟨rI, rfl, h_rI_8, hb7⟩
      have hz7 := hb7.size
      have hW8 := up_trans hW7 hb7
      have h_rS_6 := h_rS_5.up hb5
      have h_rS_7 := h_rS_6.up hb6
      have h_rS_8 := h_rS_7.up hb7
      go_wp2_with fail
      refine (eqIntS_g rI rS _ _ _ h_rI_8.ints h_rS_8.ints (by omega)).mono ?_
      rintro e w9 ⟨rfl, hb8⟩
      have hz8 := hb8.size
      have hW9 := up_trans hW8 hb8
      have h_v_6 := h_v_5.up hb5
      have h_v_7 := h_v_6.up hb6
      have h_v_8 := h_v_7.up hb7
      have h_v_9 := h_v_8.up hb8
      go_wp2_with fail
      refine (toSpotS_g v _ _ _ _ h_v_9 (by omega)).mono ?_
      rintro e w10 ⟨y0, rfl, h_y0_10, hb9⟩
      have hz9 := hb9.size
      have hW10 := up_trans hW9 hb9
      have h_x0_8 := h_x0_7.up hb7
      have h_x0_9 := h_x0_8.up hb8
      have h_x0_10 := h_x0_9.up hb9
      go_wp2_with fail
      refine (eqSpotS_g x0 y0 _ _ _ _ h_x0_10.spots h_y0_10.spots (by omega)).mono ?_
      rintro e w11 ⟨rfl, hb10⟩
      have hz10 := hb10.size
      have hW11 := up_trans hW10 hb10
      have h_v'_7 := h_v'_6.up hb6
      have h_v'_8 := h_v'_7.up hb7
      have h_v'_9 := h_v'_8.up hb8
      have h_v'_10 := h_v'_9.up hb9
      have h_v'_11 := h_v'_10.up hb10
      go_wp2_with fail
      refine (toSpotS_g v' _ _ _ _ h_v'_11 (by omega)).mono ?_
      rintro e w12 ⟨y1, rfl, h_y1_12, hb11⟩
      have hz11 := hb11.size
      have hW12 := up_trans hW11 hb11
      have h_x1_8 := h_x1_7.up hb7
      have h_x1_9 := h_x1_8.up hb8
      have h_x1_10 := h_x1_9.up hb9
      have h_x1_11 := h_x1_10.up hb10
      have h_x1_12 := h_x1_11.up hb11
      go_wp2_with fail
      refine (eqSpotS_g x1 y1 _ _ _ _ h_x1_12.spots h_y1_12.spots (by omega)).mono ?_
      rintro e w13 ⟨rfl, hb12⟩
      have hz12 := hb12.size
      have hW13 := up_trans hW12 hb12
      have h_x0_11 := h_x0_10.up hb10
      have h_x0_12 := h_x0_11.up hb11
      have h_x0_13 := h_x0_12.up hb12
      go_wp2_with fail
      refine (markSpotS_g _ x0 _ _ _ (1) _ h_x0_13 (by omega) (by omega) (by omega)).mono ?_
      rintro e w14 ⟨rfl, hg13, h_x0_14⟩
      have hz13 := hg13.size
      have hB13 : Below w5.heap.size w13 w14 := below_old h_x0_13 hg13 (by omega)
      have hW14 := hW13.trans (hB13.mono (by omega))
      have h_x1_13 := h_x1_12.up hb12
      have h_x1_14 := OwnS.young h_x1_13 h_x0_6.spots (by omega) hg13
      go_wp2_with fail
      refine (markSpotS_g _ x1 _ _ _ (1 + 2 * (n : Nat)) _ h_x1_14 (by omega) (by omega) (by omega)).mono ?_
      rintro e w15 ⟨rfl, hg14, h_x1_15⟩
      have hz14 := hg14.size
      have hB14 : Below w6.heap.size w14 w15 := below_old h_x1_14 hg14 (by omega)
      have hW15 := hW14.trans (hB14.mono (by omega))
      have h_rI_9 := h_rI_8.up hb8
      have h_rI_10 := h_rI_9.up hb9
      have h_rI_11 := h_rI_10.up hb10
      have h_rI_12 := h_rI_11.up hb11
      have h_rI_13 := h_rI_12.up hb12
      have h_rI_14 := OwnI.young h_rI_13 h_x0_6.spots (by omega) hg13
      have h_rI_15 := OwnI.young h_rI_14 h_x1_7.spots (by omega) hg14
      have h_rS_9 := h_rS_8.up hb8
      have h_rS_10 := h_rS_9.up hb9
      have h_rS_11 := h_rS_10.up hb10
      have h_rS_12 := h_rS_11.up hb11
      have h_rS_13 := h_rS_12.up hb12
      have h_rS_14 := Ints.old h_rS_5.ints h_rS_13.ints hB13
      have h_rS_15 := Ints.old h_rS_6.ints h_rS_14 hB14
      go_wp2_with fail
      refine (eqIntS_g rI rS _ _ _ h_rI_15.ints h_rS_15 (by omega)).mono ?_
      rintro e w16 ⟨rfl, hb15⟩
      have hz15 := hb15.size
      have hW16 := up_trans hW15 hb15
      have h_rI_16 := h_rI_15.up hb15
      go_wp2_with fail
      refine (markIntS_g _ rI _ _ 1 _ h_rI_16 (by omega) (by omega) (by omega)).mono ?_
      rintro e w17 ⟨rfl, hg16, h_rI_17⟩
      have hz16 := hg16.size
      have hB16 : Below w7.heap.size w16 w17 := below_oldI h_rI_16 hg16 (by omega)
      have hW17 := hW16.trans (hB16.mono (by omega))
      go_wp2_with fail
      refine (heldIntS_g rI _ 1 _ h_rI_17.ints (by omega) (by omega) (by omega)).mono ?_
      rintro e w18 ⟨rfl, hb17⟩
      have hz17 := hb17.size
      have hW18 := up_trans hW17 hb17
      have h_v_10 := h_v_9.up hb9
      have h_v_11 := h_v_10.up hb10
      have h_v_12 := h_v_11.up hb11
      have h_v_13 := h_v_12.up hb12
      have h_v_14 := Spots.old h_v_5 h_v_13 hB13
      have h_v_15 := Spots.old h_v_6 h_v_14 hB14
      have h_v_16 := h_v_15.up hb15
      have h_v_17 := Spots.old h_v_7 h_v_16 hB16
      have h_v_18 := h_v_17.up hb17
      go_wp2_with fail
      refine (toSpotS_g v _ _ _ _ h_v_18 (by omega)).mono ?_
      rintro e w19 ⟨z0, rfl, h_z0_19, hb18⟩
      have hz18 := hb18.size
      have hW19 := up_trans hW18 hb18
      have h_v'_12 := h_v'_11.up hb11
      have h_v'_13 := h_v'_12.up hb12
      have h_v'_14 := Spots.old h_v'_5 h_v'_13 hB13
      have h_v'_15 := Spots.old h_v'_6 h_v'_14 hB14
      have h_v'_16 := h_v'_15.up hb15
      have h_v'_17 := Spots.old h_v'_7 h_v'_16 hB16
      have h_v'_18 := h_v'_17.up hb17
      have h_v'_19 := h_v'_18.up hb18
      go_wp2_with fail
      refine (toSpotS_g v' _ _ _ _ h_v'_19 (by omega)).mono ?_
      rintro e w20 ⟨z1, rfl, h_z1_20, hb19⟩
      have hz19 := hb19.size
      have hW20 := up_trans hW19 hb19
      have h_z0_20 := h_z0_19.up hb19
      go_wp2_with fail
      refine (HI z0 z1 _ h_z0_20.spots h_z1_20.spots).mono ?_
      rintro e w21 ⟨rH, rfl, h_rH_21, hb20⟩
      have hz20 := hb20.size
      have hW21 := up_trans hW20 hb20
      have h_rS_16 := h_rS_15.up hb15
      have h_rS_17 := Ints.old h_rS_7.ints h_rS_16 hB16
      have h_rS_18 := h_rS_17.up hb17
      have h_rS_19 := h_rS_18.up hb18
      have h_rS_20 := h_rS_19.up hb19
      have h_rS_21 := h_rS_20.up hb20
      go_wp2_with fail
      refine (eqIntS_g rH rS _ _ _ h_rH_21.ints h_rS_21 (by omega)).mono ?_
      rintro e w22 ⟨rfl, hb21⟩
      have hz21 := hb21.size
      have hW22 := up_trans hW21 hb21
      have h_rI_18 := h_rI_17.up hb17
      have h_rI_19 := h_rI_18.up hb18
      have h_rI_20 := h_rI_19.up hb19
      have h_rI_21 := h_rI_20.up hb20
      have h_rI_22 := h_rI_21.up hb21
      go_wp2_with fail
      refine (heldIntS_g rI _ 1 _ h_rI_22.ints (by omega) (by omega) (by omega)).mono ?_
      rintro e w23 ⟨rfl, hb22⟩
      have hz22 := hb22.size
      have hW23 := up_trans hW22 hb22
      go_wp2_with fail
      go_ret
      exact Ans.bool rfl hW23
    · have HZ' := szV_neg (left := 1048576 - n) (n := m) (by omega)
      go_enter Try.func13, Try.ntmps13
      go_wp2_with ((go_at_call 15; refine (szSpotS_g _ _ _ _ _ _ (by first | exact Spots.up (by with_reducible assumption) (by (repeat (first | with_reducible exact Below.refl _ _ | with_reducible assumption | with_reducible refine up_alloc ?_ _ | with_reducible refine up_drew ?_ | with_reducible refine up_drewN ?_ _ | (with_reducible refine up_set ?_ ?hset _; case hset => first | (simp; done) | (simp; omega) | omega) | with_reducible refine up_trans ?_ (by with_reducible assumption)))) | exact OwnS.spots (OwnS.up (by with_reducible assumption) (by (repeat (first | with_reducible exact Below.refl _ _ | with_reducible assumption | with_reducible refine up_alloc ?_ _ | with_reducible refine up_drew ?_ | with_reducible refine up_drewN ?_ _ | (with_reducible refine up_set ?_ ?hset _; case hset => first | (simp; done) | (simp; omega) | omega) | with_reducible refine up_trans ?_ (by with_reducible assumption)))))) (by omega) (by omega) (by omega)).mono ?_; rintro e w1 ⟨rfl, hb⟩))
      go_ret
      exact Ans.bool rfl (by (repeat (first | with_reducible exact Below.refl _ _ | with_reducible assumption | with_reducible refine up_alloc ?_ _ | with_reducible refine up_drew ?_ | with_reducible refine up_drewN ?_ _ | (with_reducible refine up_set ?_ ?hset _; case hset => first | (simp; done) | (simp; omega) | omega) | with_reducible refine up_trans ?_ (by with_reducible assumption))))
  · have HZ := szV_neg (left := 1048576) (n := n) (by omega)
    go_enter Try.func13, Try.ntmps13
    go_wp2_with ((go_at_call 15; refine (szSpotS_g _ _ _ _ _ _ (by first | exact Spots.up (by with_reducible assumption) (by (repeat (first | with_reducible exact Below.refl _ _ | with_reducible assumption | with_reducible refine up_alloc ?_ _ | with_reducible refine up_drew ?_ | with_reducible refine up_drewN ?_ _ | (with_reducible refine up_set ?_ ?hset _; case hset => first | (simp; done) | (simp; omega) | omega) | with_reducible refine up_trans ?_ (by with_reducible assumption)))) | exact OwnS.spots (OwnS.up (by with_reducible assumption) (by (repeat (first | with_reducible exact Below.refl _ _ | with_reducible assumption | with_reducible refine up_alloc ?_ _ | with_reducible refine up_drew ?_ | with_reducible refine up_drewN ?_ _ | (with_reducible refine up_set ?_ ?hset _; case hset => first | (simp; done) | (simp; omega) | omega) | with_reducible refine up_trans ?_ (by with_reducible assumption)))))) (by omega) (by omega) (by omega)).mono ?_; rintro e w1 ⟨rfl, hb⟩))
    go_ret
    exact Ans.bool rfl (by (repeat (first | with_reducible exact Below.refl _ _ | with_reducible assumption | with_reducible refine up_alloc ?_ _ | with_reducible refine up_drew ?_ | with_reducible refine up_drewN ?_ _ | (with_reducible refine up_set ?_ ?hset _; case hset => first | (simp; done) | (simp; omega) | omega) | with_reducible refine up_trans ?_ (by with_reducible assumption))))

theorem fnExactChangedSpots_law : LawWalk Try.prog 13 Try.f13 := by
  intro H enc W base args ds ps hval hA
  rw [Try.params13] at hval hA
  obtain ⟨v0, v1, d0, d1, p0, p1, rfl, rfl, rfl, h0, h1⟩ := trodAll_two hA
  obtain ⟨n, X, Y, hs, hn⟩ := open_spots (hval 0 _ v0 rfl rfl) h0
  obtain ⟨m, X', Y', hs', hm⟩ := open_spots (hval 1 _ v1 rfl rfl) h1
  exact fnExactChangedSpots_walk v0 v1 n m X Y X' Y' hn hm W hs hs'

set_option maxRecDepth 100000 in
theorem fnExactChangedSpots_holds : Rows.FnExactChangedSpotsSaid :=
  OpenClaim.holds_of_wide 13 Try.f13 rfl rfl rfl rfl rfl rfl rfl ⟨rfl, rfl, rfl, rfl, rfl⟩ rfl rfl rfl rfl rfl (by kernel_rfl) Try.func13 (by kernel_rfl)
    (of_decide_eq_true (by kernel_rfl)) (by unfold Func.isWrapper; first | (rw [if_pos (by decide +kernel)]; kernel_rfl) | (rw [if_neg (by decide +kernel)]; exact ⟨rfl, rfl⟩))
    (fun os started H enc _ => lifted_of (C := Try.checked) (s := Rows.fnExactChangedSpotsSpec) (tb := 4) (by kernel_rfl) (by kernel_rfl) (by kernel_rfl) (by kernel_rfl) Try.func13 rfl Try.underlying4 rfl
      (fun H ds h => by
        have h2 : ds.length = 2 := by rw [Try.params13] at h; exact h
        match ds, h2 with
        | [_, _], _ => rfl)
      fnExactChangedSpots_law os started H enc
      (ChangeSpec.witness6 (enc := enc) (C := Try.checked) false ⟨#[], #[.slice none 0 0, .slice none 0 0], []⟩ 8 (by kernel_rfl) (by kernel_rfl) (by kernel_rfl) (by kernel_rfl)))

#print axioms fnExactChangedSpots_holds
end Go.Proofs.Ythpflpjhohmboaa
