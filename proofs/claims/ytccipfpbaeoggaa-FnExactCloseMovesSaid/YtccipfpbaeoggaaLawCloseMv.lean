/-
  FnExactCloseMoves: for all arguments the law returns true, and its arguments read afterwards as before. No condition.
-/
import Derived.Test.YtccipfpbaeoggaaRows
import Derived.Test.YtccipfpbaeoggaaBase
import Derived.Test.YtccipfpbaeoggaaSlice
import Derived.Test.YtccipfpbaeoggaaLawS
import Derived.Test.YtccipfpbaeoggaaMark
import Derived.Test.YtccipfpbaeoggaaOpen
import Derived.Test.YtccipfpbaeoggaaTrod
import Derived.Test.YtccipfpbaeoggaaMoves
import Derived.Test.YtccipfpbaeoggaaMovesT
import Derived.Test.YtccipfpbaeoggaaInts
import Derived.Test.YtccipfpbaeoggaaIntsL
import Derived.Test.YtccipfpbaeoggaaTurned
import Derived.Test.YtccipfpbaeoggaaTrans
import Derived.Test.YtccipfpbaeoggaaRowsI
import Derived.Test.YtccipfpbaeoggaaPairs
import Derived.Test.YtccipfpbaeoggaaCloseM
import Derived.Test.YtccipfpbaeoggaaCloseMv
namespace Go.Proofs.Ytccipfpbaeoggaa
open Go.RowKit Go.ChangeShapes Go.WideShapes Go.Sort

set_option maxRecDepth 100000 in
set_option maxHeartbeats 8000000 in
theorem fnExactCloseMoves_walk (v : Value) (n : Nat) (M : Nat → Nat → Int) (k : Int) (hn : n ≤ 9223372036854775807) (w : World) (h : Moves w v n M) :
    Calls Try.prog 11 #[v, .int .i64 k] w (Ans w (.bool true)) := by
  by_cases hl : n ≤ 1048576
  · have HZ := szV_pos (left := 1048576) (n := n) (by omega)
    have HS := Lib.hid (fun v w' (hw : Moves w' v n M) => sCloseMoves_any v n M k w' hw hl)
    have HI := Lib.hid (fun v w' (hw : Moves w' v n M) => iCloseMoves_any v n M k w' hw hl)
    have hN := cvL_len n M k
    have hSR : sumR (fun _ => 2) (cvL n M k).length ≤ 288 := by rw [sumR_two]; omega
    have hRR : ∀ i, i < (cvL n M k).length → (fun _ : Nat => 2) i ≤ 1048576 := fun _ _ => by show 2 ≤ 1048576; omega
    generalize (fun _ : Nat => 2) = Rr at *
    generalize prF (cvL n M k) = F at *
    generalize (cvL n M k).length = N at *
    generalize cvOk n M k = q at *
    have eq1 : (q != q) = false := by simp
    go_enter Try.func11, Try.ntmps11
    have hW0 := Below.refl w.heap.size w
    go_wp2_with fail
    refine (szMoveS_g v _ _ _ _ h (by omega) (by omega) (by omega)).mono ?_
    rintro e w1 ⟨rfl, hb0⟩
    have hz0 := hb0.size
    have hW1 := up_trans hW0 hb0
    have h_a_1 := h.up hb0
    go_wp2_with fail
    refine (toMoveS_g v _ _ _ h_a_1 (by omega)).mono ?_
    rintro e w2 ⟨t0, rfl, h_t0_2, hb1⟩
    have hz1 := hb1.size
    have hW2 := up_trans hW1 hb1
    go_wp2_with fail
    refine (HS.out t0 _ h_t0_2.moves).mono ?_
    rintro e w3 ⟨rS, rfl, h_rS_3, hb2⟩
    have hz2 := hb2.size
    have hW3 := up_trans hW2 hb2
    have h_a_2 := h_a_1.up hb1
    have h_a_3 := h_a_2.up hb2
    go_wp2_with fail
    refine (toMoveS_g v _ _ _ h_a_3 (by omega)).mono ?_
    rintro e w4 ⟨x0, rfl, h_x0_4, hb3⟩
    have hz3 := hb3.size
    have hW4 := up_trans hW3 hb3
    go_wp2_with fail
    refine (HI.out x0 _ h_x0_4.moves).mono ?_
    rintro e w5 ⟨rI, rfl, h_rI_5, hb4⟩
    have hz4 := hb4.size
    have hW5 := up_trans hW4 hb4
    have h_rS_4 := h_rS_3.up hb3
    have h_rS_5 := h_rS_4.up hb4
    go_wp2_with fail
    refine (eqIntSS_g rI rS _ _ _ _ h_rI_5.rows h_rS_5.rows (by omega) hRR).mono ?_
    rintro e w6 ⟨rfl, hb5⟩
    have hz5 := hb5.size
    have hW6 := up_trans hW5 hb5
    have h_a_4 := h_a_3.up hb3
    have h_a_5 := h_a_4.up hb4
    have h_a_6 := h_a_5.up hb5
    go_wp2_with fail
    refine (toMoveS_g v _ _ _ h_a_6 (by omega)).mono ?_
    rintro e w7 ⟨y0, rfl, h_y0_7, hb6⟩
    have hz6 := hb6.size
    have hW7 := up_trans hW6 hb6
    have h_x0_5 := h_x0_4.up hb4
    have h_x0_6 := h_x0_5.up hb5
    have h_x0_7 := h_x0_6.up hb6
    go_wp2_with fail
    refine (eqMoveS_g x0 y0 _ _ _ h_x0_7.moves h_y0_7.moves (by omega)).mono ?_
    rintro e w8 ⟨rfl, hb7⟩
    have hz7 := hb7.size
    have hW8 := up_trans hW7 hb7
    have h_x0_8 := h_x0_7.up hb7
    go_wp2_with fail
    refine (markMoveS_g _ x0 _ _ (1) _ h_x0_8 (by omega) (by omega) (by omega)).mono ?_
    rintro e w9 ⟨rfl, hg8, h_x0_9⟩
    have ht8 : Turned w3.heap.size w4.heap.size w8 w9 := markM_turned h_x0_8 h_x0_4.moves hg8
    have hz8 := ht8.size
    have hW9 := hW8.trans ((ht8.below (by omega)).mono (by omega))
    have h_rI_6 := h_rI_5.up hb5
    have h_rI_7 := h_rI_6.up hb6
    have h_rI_8 := h_rI_7.up hb7
    have h_rI_9 := h_rI_8.turn ht8 (by omega)
    have h_rS_6 := h_rS_5.up hb5
    have h_rS_7 := h_rS_6.up hb6
    have h_rS_8 := h_rS_7.up hb7
    have hB_3_3 := Below.refl w3.heap.size w3
    have hB_3_4 := up_trans hB_3_3 hb3
    have hB_3_5 := up_trans hB_3_4 hb4
    have hB_3_6 := up_trans hB_3_5 hb5
    have hB_3_7 := up_trans hB_3_6 hb6
    have hB_3_8 := up_trans hB_3_7 hb7
    have h_rS_9 := IRows.old h_rS_3.rows h_rS_8.rows hB_3_8 ((ht8.below (by omega)).mono (by omega))
    go_wp2_with fail
    refine (eqIntSS_g rI rS _ _ _ _ h_rI_9.rows h_rS_9 (by omega) hRR).mono ?_
    rintro e w10 ⟨rfl, hb9⟩
    have hz9 := hb9.size
    have hW10 := up_trans hW9 hb9
    have h_rI_10 := h_rI_9.up hb9
    go_wp2_with fail
    refine (markIntSS_g _ rI _ _ _ (1) _ h_rI_10 (by omega) (by omega) (by omega) hRR).mono ?_
    rintro e w11 ⟨rfl, h_rI_11, hg10⟩
    have ht10 : Turned w4.heap.size w10.heap.size w10 w11 := hg10 _ _ h_rI_10.rows (Below.refl _ _)
    have hz10 := ht10.size
    have hW11 := hW10.trans ((ht10.below (by omega)).mono (by omega))
    go_wp2_with fail
    refine (heldIntSS_g rI _ _ 1 _ h_rI_11.rows (by omega) (by omega) (by omega) hRR).mono ?_
    rintro e w12 ⟨rfl, hb11⟩
    have hz11 := hb11.size
    have hW12 := up_trans hW11 hb11
    have h_a_7 := h_a_6.up hb6
    have h_a_8 := h_a_7.up hb7
    have h_a_9 := Moves.turn h_a_3 h_a_8 ht8 (by omega) (by omega)
    have h_a_10 := h_a_9.up hb9
    have h_a_11 := Moves.turn h_a_4 h_a_10 ht10 (by omega) (by omega)
    have h_a_12 := h_a_11.up hb11
    go_wp2_with fail
    refine (toMoveS_g v _ _ _ h_a_12 (by omega)).mono ?_
    rintro e w13 ⟨z0, rfl, h_z0_13, hb12⟩
    have hz12 := hb12.size
    have hW13 := up_trans hW12 hb12
    go_wp2_with fail
    refine (HI.out z0 _ h_z0_13.moves).mono ?_
    rintro e w14 ⟨rH, rfl, h_rH_14, hb13⟩
    have hz13 := hb13.size
    have hW14 := up_trans hW13 hb13
    have h_rS_10 := h_rS_9.up hb9
    have hB_3_9 := hB_3_8.trans ((ht8.below (by omega)).mono (by omega))
    have hB_3_10 := up_trans hB_3_9 hb9
    have h_rS_11 := IRows.old h_rS_3.rows h_rS_10 hB_3_10 ((ht10.below (by omega)).mono (by omega))
    have h_rS_12 := h_rS_11.up hb11
    have h_rS_13 := h_rS_12.up hb12
    have h_rS_14 := h_rS_13.up hb13
    go_wp2_with fail
    refine (eqIntSS_g rH rS _ _ _ _ h_rH_14.rows h_rS_14 (by omega) hRR).mono ?_
    rintro e w15 ⟨rfl, hb14⟩
    have hz14 := hb14.size
    have hW15 := up_trans hW14 hb14
    have h_rI_12 := h_rI_11.up hb11
    have h_rI_13 := h_rI_12.up hb12
    have h_rI_14 := h_rI_13.up hb13
    have h_rI_15 := h_rI_14.up hb14
    go_wp2_with fail
    refine (heldIntSS_g rI _ _ 1 _ h_rI_15.rows (by omega) (by omega) (by omega) hRR).mono ?_
    rintro e w16 ⟨rfl, hb15⟩
    have hz15 := hb15.size
    have hW16 := up_trans hW15 hb15
    go_wp2_with fail
    go_ret
    exact Ans.bool rfl hW16
  · have HZ := szV_neg (left := 1048576) (n := n) (by omega)
    go_enter Try.func11, Try.ntmps11
    go_wp2_with (go_at_call 35; refine (szMoveS_g v _ M _ _ h (by omega) (by omega) (by omega)).mono ?_; rintro e w1 ⟨rfl, hb0⟩)
    go_ret
    exact Ans.bool rfl (by (repeat (first | with_reducible exact Below.refl _ _ | with_reducible assumption | with_reducible refine up_alloc ?_ _ | with_reducible refine up_drew ?_ | with_reducible refine up_drewN ?_ _ | (with_reducible refine up_set ?_ ?hset _; case hset => first | (simp; done) | (simp; omega) | omega) | with_reducible refine up_trans ?_ (by with_reducible assumption))))

set_option maxRecDepth 100000 in
theorem fnExactCloseMoves_law : LawWalk Try.prog 11 Try.f11 := by
  intro H enc W base args ds ps hval hA
  rw [Try.params11] at hval hA
  obtain ⟨v0, v1, d0, d1, p0, p1, rfl, rfl, rfl, h0, h1⟩ := trodAll_two hA
  obtain ⟨n, M, hs, hn⟩ := open_moves (hval 0 _ v0 rfl rfl) h0
  obtain ⟨k, rfl, _⟩ := open_int Try.underlying3 (hval 1 _ v1 rfl rfl) h1
  exact fnExactCloseMoves_walk v0 n M k hn W hs

set_option maxRecDepth 100000 in
theorem fnExactCloseMoves_holds : Rows.FnExactCloseMovesSaid :=
  OpenClaim.holds_of_wide 11 Try.f11 rfl rfl rfl rfl rfl rfl rfl ⟨rfl, rfl, rfl, rfl, rfl⟩ rfl rfl rfl rfl rfl (by kernel_rfl) Try.func11 (by kernel_rfl)
    (of_decide_eq_true (by kernel_rfl)) (by unfold Func.isWrapper; first | (rw [if_pos (by decide +kernel)]; kernel_rfl) | (rw [if_neg (by decide +kernel)]; exact ⟨rfl, rfl⟩))
    (fun os started H enc _ => lifted_of (C := Try.checked) (s := Rows.fnExactCloseMovesSpec) (tb := 4) (by kernel_rfl) (by kernel_rfl) (by kernel_rfl) (by kernel_rfl) Try.func11 rfl Try.underlying4 rfl
      (fun H ds h => by
        have h2 : ds.length = 2 := by rw [Try.params11] at h; exact h
        match ds, h2 with
        | [_, _], _ => rfl)
      fnExactCloseMoves_law os started H enc
      (ChangeSpec.witness6 (enc := enc) (C := Try.checked) false ⟨#[], #[.slice none 0 0, .int .i64 0], []⟩ 8 (by kernel_rfl) (by kernel_rfl) (by kernel_rfl) (by kernel_rfl)))

#print axioms fnExactCloseMoves_holds
end Go.Proofs.Ytccipfpbaeoggaa
