/-
  FnExactBlockOf: for all arguments the law returns true, and its arguments read afterwards as before. No condition.
-/
import Derived.Test.YthpflpjhohmboaaRows
import Derived.Test.YthpflpjhohmboaaBase
import Derived.Test.YthpflpjhohmboaaSpot
import Derived.Test.YthpflpjhohmboaaSlice
import Derived.Test.YthpflpjhohmboaaForm
import Derived.Test.YthpflpjhohmboaaLawS
import Derived.Test.YthpflpjhohmboaaMark
import Derived.Test.YthpflpjhohmboaaOpen
import Derived.Test.YthpflpjhohmboaaTrod
import Derived.Test.YthpflpjhohmboaaBlock
namespace Go.Proofs.Ythpflpjhohmboaa
open Go.RowKit Go.Sort Go.ChangeShapes Go.WideShapes

set_option maxHeartbeats 4000000 in
theorem fnExactBlockOf_walk (x y rows files fx fy : Int) (w : World) :
    Calls Try.prog 9 #[.agg #[.int .i64 x, .int .i64 y], .int .i64 rows, .int .i64 files, .int .i64 fx, .int .i64 fy] w (Ans w (.bool true)) := by
  have hN : sel (blB x y rows files fx fy) (rows * files).toNat ≤ 144 := by
    cases hv : blB x y rows files fx fy with
    | false => simp [sel]
    | true =>
      simp only [blB, blOk, Bool.and_eq_true] at hv
      obtain ⟨⟨⟨⟨⟨v1, v2⟩, v3⟩, v4⟩, v5⟩, v6⟩ := hv
      have v2' := inB_iff.1 v2
      have v3' := inB_iff.1 v3
      have := mul_bd (a := rows) (b := files) (A := 12) (B := 12) (by omega) (by omega) (by omega) (by omega)
      simp only [sel, if_true]
      omega
  have HS := fun w => sBlock_any x y rows files fx fy w
  have HI := fun w => iBlock_any x y rows files fx fy w
  generalize blB x y rows files fx fy = q at *
  generalize sel q (rows * files).toNat = N at *
  generalize blX x fx files.toNat = U at *
  generalize blY y fy files.toNat = V at *
  go_enter Try.func9, Try.ntmps9
  go_wp2_with fail
  generalize hW : World.alloc w _ = W at *
  have hbW : Below w.heap.size w W := by subst hW; (repeat (first | with_reducible exact Below.refl _ _ | with_reducible assumption | with_reducible refine up_alloc ?_ _ | with_reducible refine up_drew ?_ | with_reducible refine up_drewN ?_ _ | (with_reducible refine up_set ?_ ?hset _; case hset => first | (simp; done) | (simp; omega) | omega) | with_reducible refine up_trans ?_ (by with_reducible assumption)))
  have k0 : W.cell? ⟨w.heap.size, 0, none⟩ = some (.int .i64 x) := by subst hW; simp [go_sem]
  have k1 : W.cell? ⟨w.heap.size, 1, none⟩ = some (.int .i64 y) := by subst hW; simp [go_sem]
  clear hW
  have hW0 := Below.refl W.heap.size W
  go_wp2_with fail
  refine (toSpot_any _ _ _).mono ?_
  rintro e w1 ⟨rfl, hb0⟩
  have hz0 := hb0.size
  have hW1 := up_trans hW0 hb0
  go_wp2_with fail
  refine (HS _).mono ?_
  rintro e w2 ⟨rS, rfl, h_rS_2, hb1⟩
  have hz1 := hb1.size
  have hW2 := up_trans hW1 hb1
  have k0_1 := up_keep hb0 k0
  have k0_2 := up_keep hb1 k0_1
  have k1_1 := up_keep hb0 k1
  have k1_2 := up_keep hb1 k1_1
  go_wp2_with fail
  refine (toSpot_any _ _ _).mono ?_
  rintro e w3 ⟨rfl, hb2⟩
  have hz2 := hb2.size
  have hW3 := up_trans hW2 hb2
  go_wp2_with fail
  refine (HI _).mono ?_
  rintro e w4 ⟨rI, rfl, h_rI_4, hb3⟩
  have hz3 := hb3.size
  have hW4 := up_trans hW3 hb3
  have h_rS_3 := h_rS_2.up hb2
  have h_rS_4 := h_rS_3.up hb3
  go_wp2_with fail
  refine (eqSpotS_g rI rS _ _ _ _ h_rI_4.spots h_rS_4.spots (by omega)).mono ?_
  rintro e w5 ⟨rfl, hb4⟩
  have hz4 := hb4.size
  have hW5 := up_trans hW4 hb4
  have h_rI_5 := h_rI_4.up hb4
  go_wp2_with fail
  refine (markSpotS_g _ rI _ _ _ 1 _ h_rI_5 (by omega) (by omega) (by omega)).mono ?_
  rintro e w6 ⟨rfl, hg5, h_rI_6⟩
  have hz5 := hg5.size
  have hB5 : Below w3.heap.size w5 w6 := below_old h_rI_5 hg5 (by omega)
  have hW6 := hW5.trans (hB5.mono (by omega))
  go_wp2_with fail
  refine (heldSpotS_g rI _ 1 _ h_rI_6.spots (by omega) (by omega) (by omega)).mono ?_
  rintro e w7 ⟨rfl, hb6⟩
  have hz6 := hb6.size
  have hW7 := up_trans hW6 hb6
  have k0_3 := up_keep hb2 k0_2
  have k0_4 := up_keep hb3 k0_3
  have k0_5 := up_keep hb4 k0_4
  have k0_6 := cell_old k0_3 k0_5 hB5
  have k0_7 := up_keep hb6 k0_6
  have k1_3 := up_keep hb2 k1_2
  have k1_4 := up_keep hb3 k1_3
  have k1_5 := up_keep hb4 k1_4
  have k1_6 := cell_old k1_3 k1_5 hB5
  have k1_7 := up_keep hb6 k1_6
  go_wp2_with fail
  refine (toSpot_any _ _ _).mono ?_
  rintro e w8 ⟨rfl, hb7⟩
  have hz7 := hb7.size
  have hW8 := up_trans hW7 hb7
  go_wp2_with fail
  refine (HI _).mono ?_
  rintro e w9 ⟨rH, rfl, h_rH_9, hb8⟩
  have hz8 := hb8.size
  have hW9 := up_trans hW8 hb8
  have h_rS_5 := h_rS_4.up hb4
  have h_rS_6 := Spots.old h_rS_3.spots h_rS_5.spots hB5
  have h_rS_7 := h_rS_6.up hb6
  have h_rS_8 := h_rS_7.up hb7
  have h_rS_9 := h_rS_8.up hb8
  go_wp2_with fail
  refine (eqSpotS_g rH rS _ _ _ _ h_rH_9.spots h_rS_9 (by omega)).mono ?_
  rintro e w10 ⟨rfl, hb9⟩
  have hz9 := hb9.size
  have hW10 := up_trans hW9 hb9
  have h_rI_7 := h_rI_6.up hb6
  have h_rI_8 := h_rI_7.up hb7
  have h_rI_9 := h_rI_8.up hb8
  have h_rI_10 := h_rI_9.up hb9
  go_wp2_with fail
  refine (heldSpotS_g rI _ 1 _ h_rI_10.spots (by omega) (by omega) (by omega)).mono ?_
  rintro e w11 ⟨rfl, hb10⟩
  have hz10 := hb10.size
  have hW11 := up_trans hW10 hb10
  go_wp2_with fail
  go_ret
  exact Ans.bool rfl (hbW.trans (hW11.mono hbW.size))

theorem fnExactBlockOf_law : LawWalk Try.prog 9 Try.f9 := by
  intro H enc W base args ds ps hval hA
  rw [Try.params9] at hval hA
  obtain ⟨v0, v1, v2, v3, v4, d0, d1, d2, d3, d4, p0, p1, p2, p3, p4, rfl, h0, h1, h2, h3, h4⟩ := args5 hA
  obtain ⟨x, y, rfl⟩ := open_spot (hval 0 _ v0 rfl rfl) h0
  obtain ⟨a, rfl, _⟩ := open_int Try.underlying3 (hval 1 _ v1 rfl rfl) h1
  obtain ⟨b, rfl, _⟩ := open_int Try.underlying3 (hval 2 _ v2 rfl rfl) h2
  obtain ⟨c, rfl, _⟩ := open_int Try.underlying3 (hval 3 _ v3 rfl rfl) h3
  obtain ⟨d, rfl, _⟩ := open_int Try.underlying3 (hval 4 _ v4 rfl rfl) h4
  exact fnExactBlockOf_walk _ _ _ _ _ _ _

set_option maxRecDepth 100000 in
theorem fnExactBlockOf_holds : Rows.FnExactBlockOfSaid :=
  OpenClaim.holds_of_wide 9 Try.f9 rfl rfl rfl rfl rfl rfl rfl ⟨rfl, rfl, rfl, rfl, rfl⟩ rfl rfl rfl rfl rfl (by kernel_rfl) Try.func9 (by kernel_rfl)
    (of_decide_eq_true (by kernel_rfl)) (by unfold Func.isWrapper; first | (rw [if_pos (by decide +kernel)]; kernel_rfl) | (rw [if_neg (by decide +kernel)]; exact ⟨rfl, rfl⟩))
    (fun os started H enc _ => lifted_of (C := Try.checked) (s := Rows.fnExactBlockOfSpec) (tb := 4) (by kernel_rfl) (by kernel_rfl) (by kernel_rfl) (by kernel_rfl) Try.func9 rfl Try.underlying4 rfl
      (fun H ds h => by
        have h2 : ds.length = 5 := by rw [Try.params9] at h; exact h
        match ds, h2 with
        | [_, _, _, _, _], _ => rfl)
      fnExactBlockOf_law os started H enc
      (ChangeSpec.witness6 (enc := enc) (C := Try.checked) false ⟨#[], #[.agg #[.int .i64 0, .int .i64 0], .int .i64 0, .int .i64 0, .int .i64 0, .int .i64 0], []⟩ 8 (by kernel_rfl) (by kernel_rfl) (by kernel_rfl) (by kernel_rfl)))

#print axioms fnExactBlockOf_holds
end Go.Proofs.Ythpflpjhohmboaa
