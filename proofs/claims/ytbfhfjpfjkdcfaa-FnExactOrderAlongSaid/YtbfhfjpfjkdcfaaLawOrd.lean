/-
  FnExactOrderAlong: for all arguments the law returns true, and its arguments read afterwards as before. No condition.
-/
import Derived.Test.YtbfhfjpfjkdcfaaRows
import Derived.Test.YtbfhfjpfjkdcfaaBase
import Derived.Test.YtbfhfjpfjkdcfaaSpot
import Derived.Test.YtbfhfjpfjkdcfaaSlice
import Derived.Test.YtbfhfjpfjkdcfaaChart
import Derived.Test.YtbfhfjpfjkdcfaaForm
import Derived.Test.YtbfhfjpfjkdcfaaLawS
import Derived.Test.YtbfhfjpfjkdcfaaMark
import Derived.Test.YtbfhfjpfjkdcfaaOpen
import Derived.Test.YtbfhfjpfjkdcfaaInts
import Derived.Test.YtbfhfjpfjkdcfaaIntsL
import Derived.Test.YtbfhfjpfjkdcfaaOrdS
import Derived.Test.YtbfhfjpfjkdcfaaOrdL
namespace Go.Proofs.Ytbfhfjpfjkdcfaa
open Go.RowKit Go.Sort Go.ChangeShapes Go.WideShapes

set_option maxHeartbeats 4000000 in
theorem fnExactOrderAlong_walk (v : Value) (n : Nat) (X Y : Nat → Int) (hn : n ≤ 9223372036854775807) (w : World) (h : Spots w v n X Y) :
    Calls Try.prog 3 #[v] w (Ans w (.bool true)) := by
  by_cases hl : n ≤ 1048576
  · have HZ := szV_pos (left := 1048576) (n := n) (by omega)
    have hN : ordN n (chartB n X Y) ≤ n := by unfold ordN; split <;> omega
    have HS := fun v w' (a : Spots w' v n X Y) => sOrder_any v n X Y w' a (by omega)
    have HI := fun v w' (a : Spots w' v n X Y) => iOrder_any v n X Y w' a (by omega)
    generalize ordN n (chartB n X Y) = N at *
    generalize ordO X Y n = U at *
    generalize chartB n X Y = q at *
    go_enter Try.func3, Try.ntmps3
    have hW0 := Below.refl w.heap.size w
    go_wp2_with fail
    refine (szSpotS_g v _ _ _ _ _ h (by omega) (by omega) (by omega)).mono ?_
    rintro e w1 ⟨rfl, hb0⟩
    have hz0 := hb0.size
    have hW1 := up_trans hW0 hb0
    have h_v_1 := h.up hb0
    go_wp2_with fail
    refine (toSpotS_g v _ _ _ _ h_v_1 (by omega)).mono ?_
    rintro e w2 ⟨t0, rfl, h_t0_2, hb1⟩
    have hz1 := hb1.size
    have hW2 := up_trans hW1 hb1
    go_wp2_with fail
    refine (HS t0 _ h_t0_2.spots).mono ?_
    rintro e w3 ⟨rS, rfl, h_rS_3, hb2⟩
    have hz2 := hb2.size
    have hW3 := up_trans hW2 hb2
    have h_v_2 := h_v_1.up hb1
    have h_v_3 := h_v_2.up hb2
    go_wp2_with fail
    refine (toSpotS_g v _ _ _ _ h_v_3 (by omega)).mono ?_
    rintro e w4 ⟨x0, rfl, h_x0_4, hb3⟩
    have hz3 := hb3.size
    have hW4 := up_trans hW3 hb3
    go_wp2_with fail
    refine (HI x0 _ h_x0_4.spots).mono ?_
    rintro e w5 ⟨rI, rfl, h_rI_5, hb4⟩
    have hz4 := hb4.size
    have hW5 := up_trans hW4 hb4
    have h_rS_4 := h_rS_3.up hb3
    have h_rS_5 := h_rS_4.up hb4
    go_wp2_with fail
    refine (eqIntS_g rI rS _ _ _ h_rI_5.ints h_rS_5.ints (by omega)).mono ?_
    rintro e w6 ⟨rfl, hb5⟩
    have hz5 := hb5.size
    have hW6 := up_trans hW5 hb5
    have h_v_4 := h_v_3.up hb3
    have h_v_5 := h_v_4.up hb4
    have h_v_6 := h_v_5.up hb5
    go_wp2_with fail
    refine (toSpotS_g v _ _ _ _ h_v_6 (by omega)).mono ?_
    rintro e w7 ⟨y0, rfl, h_y0_7, hb6⟩
    have hz6 := hb6.size
    have hW7 := up_trans hW6 hb6
    have h_x0_5 := h_x0_4.up hb4
    have h_x0_6 := h_x0_5.up hb5
    have h_x0_7 := h_x0_6.up hb6
    go_wp2_with fail
    refine (eqSpotS_g x0 y0 _ _ _ _ h_x0_7.spots h_y0_7.spots (by omega)).mono ?_
    rintro e w8 ⟨rfl, hb7⟩
    have hz7 := hb7.size
    have hW8 := up_trans hW7 hb7
    have h_x0_8 := h_x0_7.up hb7
    go_wp2_with fail
    refine (markSpotS_g _ x0 _ _ _ (1) _ h_x0_8 (by omega) (by omega) (by omega)).mono ?_
    rintro e w9 ⟨rfl, hg8, h_x0_9⟩
    have hz8 := hg8.size
    have hB8 : Below w3.heap.size w8 w9 := below_old h_x0_8 hg8 (by omega)
    have hW9 := hW8.trans (hB8.mono (by omega))
    have h_rI_6 := h_rI_5.up hb5
    have h_rI_7 := h_rI_6.up hb6
    have h_rI_8 := h_rI_7.up hb7
    have h_rI_9 := OwnI.young h_rI_8 h_x0_4.spots (by omega) hg8
    have h_rS_6 := h_rS_5.up hb5
    have h_rS_7 := h_rS_6.up hb6
    have h_rS_8 := h_rS_7.up hb7
    have h_rS_9 := Ints.old h_rS_3.ints h_rS_8.ints hB8
    go_wp2_with fail
    refine (eqIntS_g rI rS _ _ _ h_rI_9.ints h_rS_9 (by omega)).mono ?_
    rintro e w10 ⟨rfl, hb9⟩
    have hz9 := hb9.size
    have hW10 := up_trans hW9 hb9
    have h_rI_10 := h_rI_9.up hb9
    go_wp2_with fail
    refine (markIntS_g _ rI _ _ 1 _ h_rI_10 (by omega) (by omega) (by omega)).mono ?_
    rintro e w11 ⟨rfl, hg10, h_rI_11⟩
    have hz10 := hg10.size
    have hB10 : Below w4.heap.size w10 w11 := below_oldI h_rI_10 hg10 (by omega)
    have hW11 := hW10.trans (hB10.mono (by omega))
    go_wp2_with fail
    refine (heldIntS_g rI _ 1 _ h_rI_11.ints (by omega) (by omega) (by omega)).mono ?_
    rintro e w12 ⟨rfl, hb11⟩
    have hz11 := hb11.size
    have hW12 := up_trans hW11 hb11
    have h_v_7 := h_v_6.up hb6
    have h_v_8 := h_v_7.up hb7
    have h_v_9 := Spots.old h_v_3 h_v_8 hB8
    have h_v_10 := h_v_9.up hb9
    have h_v_11 := Spots.old h_v_4 h_v_10 hB10
    have h_v_12 := h_v_11.up hb11
    go_wp2_with fail
    refine (toSpotS_g v _ _ _ _ h_v_12 (by omega)).mono ?_
    rintro e w13 ⟨z0, rfl, h_z0_13, hb12⟩
    have hz12 := hb12.size
    have hW13 := up_trans hW12 hb12
    go_wp2_with fail
    refine (HI z0 _ h_z0_13.spots).mono ?_
    rintro e w14 ⟨rH, rfl, h_rH_14, hb13⟩
    have hz13 := hb13.size
    have hW14 := up_trans hW13 hb13
    have h_rS_10 := h_rS_9.up hb9
    have h_rS_11 := Ints.old h_rS_4.ints h_rS_10 hB10
    have h_rS_12 := h_rS_11.up hb11
    have h_rS_13 := h_rS_12.up hb12
    have h_rS_14 := h_rS_13.up hb13
    go_wp2_with fail
    refine (eqIntS_g rH rS _ _ _ h_rH_14.ints h_rS_14 (by omega)).mono ?_
    rintro e w15 ⟨rfl, hb14⟩
    have hz14 := hb14.size
    have hW15 := up_trans hW14 hb14
    have h_rI_12 := h_rI_11.up hb11
    have h_rI_13 := h_rI_12.up hb12
    have h_rI_14 := h_rI_13.up hb13
    have h_rI_15 := h_rI_14.up hb14
    go_wp2_with fail
    refine (heldIntS_g rI _ 1 _ h_rI_15.ints (by omega) (by omega) (by omega)).mono ?_
    rintro e w16 ⟨rfl, hb15⟩
    have hz15 := hb15.size
    have hW16 := up_trans hW15 hb15
    go_wp2_with fail
    go_ret
    exact Ans.bool rfl hW16
  · have HZ := szV_neg (left := 1048576) (n := n) (by omega)
    go_enter Try.func3, Try.ntmps3
    go_wp2_with ((go_at_call 4; refine (szSpotS_g _ _ _ _ _ _ (by first | exact Spots.up (by with_reducible assumption) (by (repeat (first | with_reducible exact Below.refl _ _ | with_reducible assumption | with_reducible refine up_alloc ?_ _ | with_reducible refine up_drew ?_ | with_reducible refine up_drewN ?_ _ | (with_reducible refine up_set ?_ ?hset _; case hset => first | (simp; done) | (simp; omega) | omega) | with_reducible refine up_trans ?_ (by with_reducible assumption)))) | exact OwnS.spots (OwnS.up (by with_reducible assumption) (by (repeat (first | with_reducible exact Below.refl _ _ | with_reducible assumption | with_reducible refine up_alloc ?_ _ | with_reducible refine up_drew ?_ | with_reducible refine up_drewN ?_ _ | (with_reducible refine up_set ?_ ?hset _; case hset => first | (simp; done) | (simp; omega) | omega) | with_reducible refine up_trans ?_ (by with_reducible assumption)))))) (by omega) (by omega) (by omega)).mono ?_; rintro e w1 ⟨rfl, hb⟩))
    go_ret
    exact Ans.bool rfl (by (repeat (first | with_reducible exact Below.refl _ _ | with_reducible assumption | with_reducible refine up_alloc ?_ _ | with_reducible refine up_drew ?_ | with_reducible refine up_drewN ?_ _ | (with_reducible refine up_set ?_ ?hset _; case hset => first | (simp; done) | (simp; omega) | omega) | with_reducible refine up_trans ?_ (by with_reducible assumption))))

set_option maxRecDepth 100000 in
theorem fnExactOrderAlong_law : LawWalk Try.prog 3 Try.f3 := by
  intro H enc W base args ds ps hval hA
  rw [Try.params3] at hval hA
  obtain ⟨v0, d0, rfl, rfl, h0⟩ := trodAll_one hA
  obtain ⟨n, X, Y, hs, hn⟩ := open_spots (hval 0 _ v0 rfl rfl) h0
  exact fnExactOrderAlong_walk v0 n X Y hn W hs

set_option maxRecDepth 100000 in
set_option maxHeartbeats 4000000 in
theorem fnExactOrderAlong_wit (os : Os) (H : Type) (enc : TypeId × Value → H) : ∃ (w : World) (tape : Tape) (i : Input), w.os = os ∧ (w.forCall tape i).Shaped Try.checked.prog ∧ i.vars = [] ∧ Input.okWide Try.checked.prog (w.forCall tape i) .any w.heap.size 3 i ∧
      Rows.fnExactOrderAlongSpec.pre6 enc Try.checked.prog Try.f3 [] false (w.forCall tape i).memory i.args ∧ ({} : Assume).holds Try.checked.prog (lone (Frame.enter Try.checked.prog 3 i.args .normal) [] (w.forCall tape i)) :=
  ChangeSpec.witness6 (enc := enc) (C := Try.checked) false ⟨#[], #[.slice none 0 0], []⟩ 8 (by kernel_rfl) (by kernel_rfl) (by kernel_rfl) (by kernel_rfl)

set_option maxRecDepth 100000 in
set_option maxHeartbeats 4000000 in
theorem fnExactOrderAlong_row (os : Os) (started : os.Started) (H : Type) (enc : TypeId × Value → H) :
    ReturnsInHanded {} Try.checked os 3 .any (Rows.fnExactOrderAlongSpec.pre6 enc Try.checked.prog Try.f3 [] false) (Rows.fnExactOrderAlongSpec.post enc Try.checked.prog Try.f3 false true false false) :=
  lifted_of (C := Try.checked) (s := Rows.fnExactOrderAlongSpec) (tb := 4) (by kernel_rfl) (by kernel_rfl) (by kernel_rfl) (by kernel_rfl) Try.func3 rfl Try.underlying4 rfl
      (fun H ds h => by
        have h2 : ds.length = 1 := by rw [Try.params3] at h; exact h
        match ds, h2 with
        | [_], _ => rfl)
      fnExactOrderAlong_law os started H enc (fnExactOrderAlong_wit os H enc)

set_option maxRecDepth 100000 in
set_option maxHeartbeats 4000000 in
theorem fnExactOrderAlong_holds : Rows.FnExactOrderAlongSaid :=
  OpenClaim.holds_of_wide 3 Try.f3 rfl rfl rfl rfl rfl rfl rfl ⟨rfl, rfl, rfl, rfl, rfl⟩ rfl rfl rfl rfl rfl (by kernel_rfl) Try.func3 (by kernel_rfl)
    (of_decide_eq_true (by kernel_rfl)) (by unfold Func.isWrapper; first | (rw [if_pos (by decide +kernel)]; kernel_rfl) | (rw [if_neg (by decide +kernel)]; exact ⟨rfl, rfl⟩))
    (fun os started H enc _ => fnExactOrderAlong_row os started H enc)

#print axioms fnExactOrderAlong_holds
end Go.Proofs.Ytbfhfjpfjkdcfaa
