/-
  FnExactBoundsOf: for all arguments the law returns true, and its arguments read afterwards as before. No condition.
-/
import Derived.Test.YtccipfpbaeoggaaRows
import Derived.Test.YtccipfpbaeoggaaBase
import Derived.Test.YtccipfpbaeoggaaSpot
import Derived.Test.YtccipfpbaeoggaaSlice
import Derived.Test.YtccipfpbaeoggaaChart
import Derived.Test.YtccipfpbaeoggaaLawS
import Derived.Test.YtccipfpbaeoggaaMark
import Derived.Test.YtccipfpbaeoggaaOpen
import Derived.Test.YtccipfpbaeoggaaBounds
namespace Go.Proofs.Ytccipfpbaeoggaa
open Go.RowKit Go.Sort Go.ChangeShapes Go.WideShapes

set_option maxRecDepth 100000 in
set_option maxHeartbeats 4000000 in
theorem fnExactBoundsOf_walk (v : Value) (n : Nat) (X Y : Nat → Int) (hn : n ≤ 9223372036854775807) (w : World) (h : Spots w v n X Y) :
    Calls Try.prog 3 #[v] w (Ans w (.bool true)) := by
  by_cases hl : n ≤ 1048576
  · have HZ := szV_pos (left := 1048576) (n := n) (by omega)
    have HS := fun v w' (hw : Spots w' v n X Y) => sBounds_any v n X Y w' hw hl
    have HI := fun v w' (hw : Spots w' v n X Y) => iBounds_any v n X Y w' hw hl
    obtain ⟨a, b, c, d, q, hq⟩ : ∃ a b c d q, bndV n X Y = .tuple #[.agg #[.int .i64 a, .int .i64 b], .agg #[.int .i64 c, .int .i64 d], .bool q] := by
      unfold bndV; split <;> exact ⟨_, _, _, _, _, rfl⟩
    rw [hq] at HS HI
    clear hq
    go_enter Try.func3, Try.ntmps3
    have hW0 := Below.refl w.heap.size w
    go_wp2_with fail
    refine (szSpotS_g v _ _ _ _ _ h (by omega) (by omega) (by omega)).mono ?_
    rintro e w1 ⟨rfl, hb0⟩
    have hz0 := hb0.size
    have hW1 := up_trans hW0 hb0
    have h_v_1 := h.up hb0
    go_wp2_with fail
    refine (toSpotS_g v _ _ _ _ h_v_1 (by omega)).mono ?_
    rintro e w2 ⟨t0, rfl, h_t0_2, hb1⟩
    have hz1 := hb1.size
    have hW2 := up_trans hW1 hb1
    go_wp2_with fail
    refine (HS t0 _ h_t0_2.spots).mono ?_
    rintro e w3 ⟨rfl, hb2⟩
    have hz2 := hb2.size
    have hW3 := up_trans hW2 hb2
    go_wp2_with fail
    obtain ⟨w4, hW⟩ : ∃ W, W = World.alloc w3 (.cells #[.int .i64 a, .int .i64 b] 25) := ⟨_, rfl⟩
    rw [← hW]
    have hb3 : Below w3.heap.size w3 w4 := by rw [hW]; exact below_alloc _ _
    have hsgs0 : w3.heap.size < w4.heap.size := by rw [hW]; simp
    have hszgs0 : w4.heap.size = w3.heap.size + 1 := by rw [hW]; simp
    have gs00 : w4.cell? ⟨w3.heap.size, 0, none⟩ = some (.int .i64 a) := by rw [hW]; simp [go_sem]
    have gs01 : w4.cell? ⟨w3.heap.size, 1, none⟩ = some (.int .i64 b) := by rw [hW]; simp [go_sem]
    clear hW
    have hz3 := hb3.size
    have hW4 := up_trans hW3 hb3
    obtain ⟨w5, hW⟩ : ∃ W, W = World.alloc w4 (.cells #[.int .i64 c, .int .i64 d] 25) := ⟨_, rfl⟩
    rw [← hW]
    have hb4 : Below w4.heap.size w4 w5 := by rw [hW]; exact below_alloc _ _
    have hsgs1 : w4.heap.size < w5.heap.size := by rw [hW]; simp
    have gs10 : w5.cell? ⟨w3.heap.size + 1, 0, none⟩ = some (.int .i64 c) := by rw [hW, ← hszgs0]; simp [go_sem]
    have gs11 : w5.cell? ⟨w3.heap.size + 1, 1, none⟩ = some (.int .i64 d) := by rw [hW, ← hszgs0]; simp [go_sem]
    clear hW
    have hz4 := hb4.size
    have hW5 := up_trans hW4 hb4
    have h_v_2 := h_v_1.up hb1
    have h_v_3 := h_v_2.up hb2
    have h_v_4 := h_v_3.up hb3
    have h_v_5 := h_v_4.up hb4
    refine (toSpotS_g v _ _ _ _ h_v_5 (by omega)).mono ?_
    rintro e w6 ⟨x0, rfl, h_x0_6, hb5⟩
    have hz5 := hb5.size
    have hW6 := up_trans hW5 hb5
    go_wp2_with fail
    refine (HI x0 _ h_x0_6.spots).mono ?_
    rintro e w7 ⟨rfl, hb6⟩
    have hz6 := hb6.size
    have hW7 := up_trans hW6 hb6
    have gs00_5 := up_keep hb4 gs00
    have gs00_6 := up_keep hb5 gs00_5
    have gs00_7 := up_keep hb6 gs00_6
    have gs01_5 := up_keep hb4 gs01
    have gs01_6 := up_keep hb5 gs01_5
    have gs01_7 := up_keep hb6 gs01_6
    have gs10_6 := up_keep hb5 gs10
    have gs10_7 := up_keep hb6 gs10_6
    have gs11_6 := up_keep hb5 gs11
    have gs11_7 := up_keep hb6 gs11_6
    have yy00 := (show _ = _ from up_keep (below_alloc _ _) (gs00_7) : (World.alloc w7 (.cells #[.int .i64 a, .int .i64 b] 25)).cell? _ = some _)
    have yy01 := (show _ = _ from up_keep (below_alloc _ _) (up_keep (below_alloc _ _) (gs00_7)) : (World.alloc (World.alloc w7 (.cells #[.int .i64 a, .int .i64 b] 25)) (.cells #[.int .i64 c, .int .i64 d] 25)).cell? _ = some _)
    have yy10 := (show _ = _ from up_keep (below_alloc _ _) (gs01_7) : (World.alloc w7 (.cells #[.int .i64 a, .int .i64 b] 25)).cell? _ = some _)
    have yy11 := (show _ = _ from up_keep (below_alloc _ _) (up_keep (below_alloc _ _) (gs01_7)) : (World.alloc (World.alloc w7 (.cells #[.int .i64 a, .int .i64 b] 25)) (.cells #[.int .i64 c, .int .i64 d] 25)).cell? _ = some _)
    have yy20 := (show _ = _ from up_keep (below_alloc _ _) (gs10_7) : (World.alloc w7 (.cells #[.int .i64 a, .int .i64 b] 25)).cell? _ = some _)
    have yy21 := (show _ = _ from up_keep (below_alloc _ _) (up_keep (below_alloc _ _) (gs10_7)) : (World.alloc (World.alloc w7 (.cells #[.int .i64 a, .int .i64 b] 25)) (.cells #[.int .i64 c, .int .i64 d] 25)).cell? _ = some _)
    have yy30 := (show _ = _ from up_keep (below_alloc _ _) (gs11_7) : (World.alloc w7 (.cells #[.int .i64 a, .int .i64 b] 25)).cell? _ = some _)
    have yy31 := (show _ = _ from up_keep (below_alloc _ _) (up_keep (below_alloc _ _) (gs11_7)) : (World.alloc (World.alloc w7 (.cells #[.int .i64 a, .int .i64 b] 25)) (.cells #[.int .i64 c, .int .i64 d] 25)).cell? _ = some _)
    have hss0 : w3.heap.size < w7.heap.size := lt_of_cell gs00_7
    have hss1 : w3.heap.size + 1 < w7.heap.size := lt_of_cell gs10_7
    go_wp2_with fail
    obtain ⟨w8, hW⟩ : ∃ W, W = World.alloc w7 (.cells #[.int .i64 a, .int .i64 b] 25) := ⟨_, rfl⟩
    rw [← hW]
    have hb7 : Below w7.heap.size w7 w8 := by rw [hW]; exact below_alloc _ _
    have hsgi0 : w7.heap.size < w8.heap.size := by rw [hW]; simp
    have hszgi0 : w8.heap.size = w7.heap.size + 1 := by rw [hW]; simp
    have gi00 : w8.cell? ⟨w7.heap.size, 0, none⟩ = some (.int .i64 a) := by rw [hW]; simp [go_sem]
    have gi01 : w8.cell? ⟨w7.heap.size, 1, none⟩ = some (.int .i64 b) := by rw [hW]; simp [go_sem]
    clear hW
    have hz7 := hb7.size
    have hW8 := up_trans hW7 hb7
    obtain ⟨w9, hW⟩ : ∃ W, W = World.alloc w8 (.cells #[.int .i64 c, .int .i64 d] 25) := ⟨_, rfl⟩
    rw [← hW]
    have hb8 : Below w8.heap.size w8 w9 := by rw [hW]; exact below_alloc _ _
    have hsgi1 : w8.heap.size < w9.heap.size := by rw [hW]; simp
    have gi10 : w9.cell? ⟨w7.heap.size + 1, 0, none⟩ = some (.int .i64 c) := by rw [hW, ← hszgi0]; simp [go_sem]
    have gi11 : w9.cell? ⟨w7.heap.size + 1, 1, none⟩ = some (.int .i64 d) := by rw [hW, ← hszgi0]; simp [go_sem]
    clear hW
    have hz8 := hb8.size
    have hW9 := up_trans hW8 hb8
    refine (eqSpot_any _ _ _ _ _).mono ?_
    rintro e w10 ⟨rfl, hb9⟩
    have hz9 := hb9.size
    have hW10 := up_trans hW9 hb9
    have gs00_8 := up_keep hb7 gs00_7
    have gs00_9 := up_keep hb8 gs00_8
    have gs00_10 := up_keep hb9 gs00_9
    have gs01_8 := up_keep hb7 gs01_7
    have gs01_9 := up_keep hb8 gs01_8
    have gs01_10 := up_keep hb9 gs01_9
    have gs10_8 := up_keep hb7 gs10_7
    have gs10_9 := up_keep hb8 gs10_8
    have gs10_10 := up_keep hb9 gs10_9
    have gs11_8 := up_keep hb7 gs11_7
    have gs11_9 := up_keep hb8 gs11_8
    have gs11_10 := up_keep hb9 gs11_9
    have gi00_9 := up_keep hb8 gi00
    have gi00_10 := up_keep hb9 gi00_9
    have gi01_9 := up_keep hb8 gi01
    have gi01_10 := up_keep hb9 gi01_9
    have gi10_10 := up_keep hb9 gi10
    have gi11_10 := up_keep hb9 gi11
    go_wp2_with fail
    refine (eqSpot_any _ _ _ _ _).mono ?_
    rintro e w11 ⟨rfl, hb10⟩
    have hz10 := hb10.size
    have hW11 := up_trans hW10 hb10
    have h_v_6 := h_v_5.up hb5
    have h_v_7 := h_v_6.up hb6
    have h_v_8 := h_v_7.up hb7
    have h_v_9 := h_v_8.up hb8
    have h_v_10 := h_v_9.up hb9
    have h_v_11 := h_v_10.up hb10
    go_wp2_with fail
    refine (toSpotS_g v _ _ _ _ h_v_11 (by omega)).mono ?_
    rintro e w12 ⟨y0, rfl, h_y0_12, hb11⟩
    have hz11 := hb11.size
    have hW12 := up_trans hW11 hb11
    have h_x0_7 := h_x0_6.up hb6
    have h_x0_8 := h_x0_7.up hb7
    have h_x0_9 := h_x0_8.up hb8
    have h_x0_10 := h_x0_9.up hb9
    have h_x0_11 := h_x0_10.up hb10
    have h_x0_12 := h_x0_11.up hb11
    go_wp2_with fail
    refine (eqSpotS_g x0 y0 _ _ _ _ h_x0_12.spots h_y0_12.spots (by omega)).mono ?_
    rintro e w13 ⟨rfl, hb12⟩
    have hz12 := hb12.size
    have hW13 := up_trans hW12 hb12
    go_wp2_with fail
    go_ret
    exact Ans.bool rfl hW13
  · have HZ := szV_neg (left := 1048576) (n := n) (by omega)
    go_enter Try.func3, Try.ntmps3
    go_wp2_with ((go_at_call 15; refine (szSpotS_g _ _ _ _ _ _ (by first | exact Spots.up (by with_reducible assumption) (by (repeat (first | with_reducible exact Below.refl _ _ | with_reducible assumption | with_reducible refine up_alloc ?_ _ | with_reducible refine up_drew ?_ | with_reducible refine up_drewN ?_ _ | (with_reducible refine up_set ?_ ?hset _; case hset => first | (simp; done) | (simp; omega) | omega) | with_reducible refine up_trans ?_ (by with_reducible assumption)))) | exact OwnS.spots (OwnS.up (by with_reducible assumption) (by (repeat (first | with_reducible exact Below.refl _ _ | with_reducible assumption | with_reducible refine up_alloc ?_ _ | with_reducible refine up_drew ?_ | with_reducible refine up_drewN ?_ _ | (with_reducible refine up_set ?_ ?hset _; case hset => first | (simp; done) | (simp; omega) | omega) | with_reducible refine up_trans ?_ (by with_reducible assumption)))))) (by omega) (by omega) (by omega)).mono ?_; rintro e w1 ⟨rfl, hb⟩))
    go_ret
    exact Ans.bool rfl (by (repeat (first | with_reducible exact Below.refl _ _ | with_reducible assumption | with_reducible refine up_alloc ?_ _ | with_reducible refine up_drew ?_ | with_reducible refine up_drewN ?_ _ | (with_reducible refine up_set ?_ ?hset _; case hset => first | (simp; done) | (simp; omega) | omega) | with_reducible refine up_trans ?_ (by with_reducible assumption))))

set_option maxRecDepth 100000 in
theorem fnExactBoundsOf_law : LawWalk Try.prog 3 Try.f3 := by
  intro H enc W base args ds ps hval hA
  rw [Try.params3] at hval hA
  obtain ⟨v0, d0, rfl, rfl, h0⟩ := trodAll_one hA
  obtain ⟨n, X, Y, hs, hn⟩ := open_spots (hval 0 _ v0 rfl rfl) h0
  exact fnExactBoundsOf_walk v0 n X Y hn W hs

set_option maxRecDepth 100000 in
theorem fnExactBoundsOf_holds : Rows.FnExactBoundsOfSaid :=
  OpenClaim.holds_of_wide 3 Try.f3 rfl rfl rfl rfl rfl rfl rfl ⟨rfl, rfl, rfl, rfl, rfl⟩ rfl rfl rfl rfl rfl (by kernel_rfl) Try.func3 (by kernel_rfl)
    (of_decide_eq_true (by kernel_rfl)) (by unfold Func.isWrapper; first | (rw [if_pos (by decide +kernel)]; kernel_rfl) | (rw [if_neg (by decide +kernel)]; exact ⟨rfl, rfl⟩))
    (fun os started H enc _ => lifted_of (C := Try.checked) (s := Rows.fnExactBoundsOfSpec) (tb := 4) (by kernel_rfl) (by kernel_rfl) (by kernel_rfl) (by kernel_rfl) Try.func3 rfl Try.underlying4 rfl
      (fun H ds h => by
        have h2 : ds.length = 1 := by rw [Try.params3] at h; exact h
        match ds, h2 with
        | [_], _ => rfl)
      fnExactBoundsOf_law os started H enc
      (ChangeSpec.witness6 (enc := enc) (C := Try.checked) false ⟨#[], #[.slice none 0 0], []⟩ 8 (by kernel_rfl) (by kernel_rfl) (by kernel_rfl) (by kernel_rfl)))

#print axioms fnExactBoundsOf_holds
end Go.Proofs.Ytccipfpbaeoggaa
