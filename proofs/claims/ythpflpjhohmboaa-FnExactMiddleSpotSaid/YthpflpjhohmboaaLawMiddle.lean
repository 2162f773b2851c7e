/-
  FnExactMiddleSpot: for all arguments the law returns true, and its arguments read afterwards as before. No condition.
-/
import Derived.Test.YthpflpjhohmboaaRows
import Derived.Test.YthpflpjhohmboaaBase
import Derived.Test.YthpflpjhohmboaaSpot
import Derived.Test.YthpflpjhohmboaaSlice
import Derived.Test.YthpflpjhohmboaaChart
import Derived.Test.YthpflpjhohmboaaLawS
import Derived.Test.YthpflpjhohmboaaMark
import Derived.Test.YthpflpjhohmboaaOpen
import Derived.Test.YthpflpjhohmboaaMiddle
namespace Go.Proofs.Ythpflpjhohmboaa
open Go.RowKit Go.Sort Go.ChangeShapes Go.WideShapes

set_option maxHeartbeats 4000000 in
theorem fnExactMiddleSpot_walk (v : Value) (n : Nat) (X Y : Nat → Int) (hn : n ≤ 9223372036854775807) (w : World) (h : Spots w v n X Y) :
    Calls Try.prog 8 #[v] w (Ans w (.bool true)) := by
  by_cases hl : n ≤ 1048576
  · have HZ := szV_pos (left := 1048576) (n := n) (by omega)
    have HS := fun v w' (hw : Spots w' v n X Y) => sMiddle_any v n X Y w' hw hl
    have HI := fun v w' (hw : Spots w' v n X Y) => iMiddle_any v n X Y w' hw hl
    obtain ⟨a, b, q, hq⟩ : ∃ a b q, midV n X Y = .tuple #[.agg #[.int .i64 a, .int .i64 b], .bool q] := by
      unfold midV; split <;> exact ⟨_, _, _, rfl⟩
    rw [hq] at HS HI
    clear hq
    go_enter Try.func8, Try.ntmps8
    have hW0 := Below.refl w.heap.size w
    go_wp2_with fail
    refine (szSpotS_g v _ _ _ _ _ h (by omega) (by omega) (by omega)).mono ?_
    rintro e w1 ⟨rfl, hb0⟩
    have hz0 := hb0.size
    have hW1 := up_trans hW0 hb0
    have h_v_1 := h.up hb0
    go_wp2_with fail
    refine (toSpotS_g v _ _ _ _ h_v_1 (by omega)).mono ?_
    rintro e w2 ⟨t0, rfl, h_t0_2, hb1⟩
    have hz1 := hb1.size
    have hW2 := up_trans hW1 hb1
    go_wp2_with fail
    refine (HS t0 _ h_t0_2.spots).mono ?_
    rintro e w3 ⟨rfl, hb2⟩
    have hz2 := hb2.size
    have hW3 := up_trans hW2 hb2
    go_wp2_with fail
    obtain ⟨w4, hW⟩ : ∃ W, W = World.alloc w3 (.cells #[.int .i64 a, .int .i64 b] 40) := ⟨_, rfl⟩
    rw [← hW]
    have hb3 : Below w3.heap.size w3 w4 := by rw [hW]; exact below_alloc _ _
    have hsgs0 : w3.heap.size < w4.heap.size := by rw [hW]; simp
    have gs00 : w4.cell? ⟨w3.heap.size, 0, none⟩ = some (.int .i64 a) := by rw [hW]; simp [go_sem]
    have gs01 : w4.cell? ⟨w3.heap.size, 1, none⟩ = some (.int .i64 b) := by rw [hW]; simp [go_sem]
    clear hW
    have hz3 := hb3.size
    have hW4 := up_trans hW3 hb3
    have h_v_2 := h_v_1.up hb1
    have h_v_3 := h_v_2.up hb2
    have h_v_4 := h_v_3.up hb3
    refine (toSpotS_g v _ _ _ _ h_v_4 (by omega)).mono ?_
    rintro e w5 ⟨x0, rfl, h_x0_5, hb4⟩
    have hz4 := hb4.size
    have hW5 := up_trans hW4 hb4
    go_wp2_with fail
    refine (HI x0 _ h_x0_5.spots).mono ?_
    rintro e w6 ⟨rfl, hb5⟩
    have hz5 := hb5.size
    have hW6 := up_trans hW5 hb5
    have gs00_5 := up_keep hb4 gs00
    have gs00_6 := up_keep hb5 gs00_5
    have gs01_5 := up_keep hb4 gs01
    have gs01_6 := up_keep hb5 gs01_5
    have yy00 := (show _ = _ from up_keep (below_alloc _ _) (gs00_6) : (World.alloc w6 (.cells #[.int .i64 a, .int .i64 b] 40)).cell? _ = some _)
    have yy10 := (show _ = _ from up_keep (below_alloc _ _) (gs01_6) : (World.alloc w6 (.cells #[.int .i64 a, .int .i64 b] 40)).cell? _ = some _)
    have hss0 : w3.heap.size < w6.heap.size := lt_of_cell gs00_6
    go_wp2_with fail
    obtain ⟨w7, hW⟩ : ∃ W, W = World.alloc w6 (.cells #[.int .i64 a, .int .i64 b] 40) := ⟨_, rfl⟩
    rw [← hW]
    have hb6 : Below w6.heap.size w6 w7 := by rw [hW]; exact below_alloc _ _
    have hsgi0 : w6.heap.size < w7.heap.size := by rw [hW]; simp
    have gi00 : w7.cell? ⟨w6.heap.size, 0, none⟩ = some (.int .i64 a) := by rw [hW]; simp [go_sem]
    have gi01 : w7.cell? ⟨w6.heap.size, 1, none⟩ = some (.int .i64 b) := by rw [hW]; simp [go_sem]
    clear hW
    have hz6 := hb6.size
    have hW7 := up_trans hW6 hb6
    refine (eqSpot_any _ _ _ _ _).mono ?_
    rintro e w8 ⟨rfl, hb7⟩
    have hz7 := hb7.size
    have hW8 := up_trans hW7 hb7
    have h_v_5 := h_v_4.up hb4
    have h_v_6 := h_v_5.up hb5
    have h_v_7 := h_v_6.up hb6
    have h_v_8 := h_v_7.up hb7
    go_wp2_with fail
    refine (toSpotS_g v _ _ _ _ h_v_8 (by omega)).mono ?_
    rintro e w9 ⟨y0, rfl, h_y0_9, hb8⟩
    have hz8 := hb8.size
    have hW9 := up_trans hW8 hb8
    have h_x0_6 := h_x0_5.up hb5
    have h_x0_7 := h_x0_6.up hb6
    have h_x0_8 := h_x0_7.up hb7
    have h_x0_9 := h_x0_8.up hb8
    go_wp2_with fail
    refine (eqSpotS_g x0 y0 _ _ _ _ h_x0_9.spots h_y0_9.spots (by omega)).mono ?_
    rintro e w10 ⟨rfl, hb9⟩
    have hz9 := hb9.size
    have hW10 := up_trans hW9 hb9
    go_wp2_with fail
    go_ret
    exact Ans.bool rfl hW10
  · have HZ := szV_neg (left := 1048576) (n := n) (by omega)
    go_enter Try.func8, Try.ntmps8
    go_wp2_with ((go_at_call 15; refine (szSpotS_g _ _ _ _ _ _ (by first | exact Spots.up (by with_reducible assumption) (by (repeat (first | with_reducible exact Below.refl _ _ | with_reducible assumption | with_reducible refine up_alloc ?_ _ | with_reducible refine up_drew ?_ | with_reducible refine up_drewN ?_ _ | (with_reducible refine up_set ?_ ?hset _; case hset => first | (simp; done) | (simp; omega) | omega) | with_reducible refine up_trans ?_ (by with_reducible assumption)))) | exact OwnS.spots (OwnS.up (by with_reducible assumption) (by (repeat (first | with_reducible exact Below.refl _ _ | with_reducible assumption | with_reducible refine up_alloc ?_ _ | with_reducible refine up_drew ?_ | with_reducible refine up_drewN ?_ _ | (with_reducible refine up_set ?_ ?hset _; case hset => first | (simp; done) | (simp; omega) | omega) | with_reducible refine up_trans ?_ (by with_reducible assumption)))))) (by omega) (by omega) (by omega)).mono ?_; rintro e w1 ⟨rfl, hb⟩))
    go_ret
    exact Ans.bool rfl (by (repeat (first | with_reducible exact Below.refl _ _ | with_reducible assumption | with_reducible refine up_alloc ?_ _ | with_reducible refine up_drew ?_ | with_reducible refine up_drewN ?_ _ | (with_reducible refine up_set ?_ ?hset _; case hset => first | (simp; done) | (simp; omega) | omega) | with_reducible refine up_trans ?_ (by with_reducible assumption))))

theorem fnExactMiddleSpot_law : LawWalk Try.prog 8 Try.f8 := by
  intro H enc W base args ds ps hval hA
  rw [Try.params8] at hval hA
  obtain ⟨v0, d0, rfl, rfl, h0⟩ := trodAll_one hA
  obtain ⟨n, X, Y, hs, hn⟩ := open_spots (hval 0 _ v0 rfl rfl) h0
  exact fnExactMiddleSpot_walk v0 n X Y hn W hs

set_option maxRecDepth 100000 in
theorem fnExactMiddleSpot_holds : Rows.FnExactMiddleSpotSaid :=
  OpenClaim.holds_of_wide 8 Try.f8 rfl rfl rfl rfl rfl rfl rfl ⟨rfl, rfl, rfl, rfl, rfl⟩ rfl rfl rfl rfl rfl (by kernel_rfl) Try.func8 (by kernel_rfl)
    (of_decide_eq_true (by kernel_rfl)) (by unfold Func.isWrapper; first | (rw [if_pos (by decide +kernel)]; kernel_rfl) | (rw [if_neg (by decide +kernel)]; exact ⟨rfl, rfl⟩))
    (fun os started H enc _ => lifted_of (C := Try.checked) (s := Rows.fnExactMiddleSpotSpec) (tb := 4) (by kernel_rfl) (by kernel_rfl) (by kernel_rfl) (by kernel_rfl) Try.func8 rfl Try.underlying4 rfl
      (fun H ds h => by
        have h2 : ds.length = 1 := by rw [Try.params8] at h; exact h
        match ds, h2 with
        | [_], _ => rfl)
      fnExactMiddleSpot_law os started H enc
      (ChangeSpec.witness6 (enc := enc) (C := Try.checked) false ⟨#[], #[.slice none 0 0], []⟩ 8 (by kernel_rfl) (by kernel_rfl) (by kernel_rfl) (by kernel_rfl)))

#print axioms fnExactMiddleSpot_holds
end Go.Proofs.Ythpflpjhohmboaa
