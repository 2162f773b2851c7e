/-
  FnExactLineOf: for all arguments the law returns true, and its arguments read afterwards as before. No condition.
-/
import Derived.Test.YtccipfpbaeoggaaRows
import Derived.Test.YtccipfpbaeoggaaBase
import Derived.Test.YtccipfpbaeoggaaSpot
import Derived.Test.YtccipfpbaeoggaaSlice
import Derived.Test.YtccipfpbaeoggaaForm
import Derived.Test.YtccipfpbaeoggaaLawS
import Derived.Test.YtccipfpbaeoggaaMark
import Derived.Test.YtccipfpbaeoggaaOpen
import Derived.Test.YtccipfpbaeoggaaTrod
import Derived.Test.YtccipfpbaeoggaaLine
import Derived.Test.YtccipfpbaeoggaaLineS
import Derived.Deep.RegionHeld3
namespace Go.Proofs.Ytccipfpbaeoggaa
open Go.RowKit Go.Sort Go.ChangeShapes Go.WideShapes

set_option maxRecDepth 100000 in
set_option maxHeartbeats 4000000 in
theorem fnExactLineOf_walk (x y u v count : Int) (w : World) :
    Calls Try.prog 4 #[.agg #[.int .i64 x, .int .i64 y], .agg #[.int .i64 u, .int .i64 v], .int .i64 count] w (Ans w (.bool true)) := by
  have hN : sel (lnB x y u v count) count.toNat ≤ 144 := by
    cases hv : lnB x y u v count with
    | false => simp [sel]
    | true =>
      simp only [lnB, lnOk, Bool.and_eq_true] at hv
      have v2' := inB_iff.1 hv.1.2
      simp only [sel, if_true]
      omega
  have HS := fun w => sLine_any x y u v count w
  have HI := fun w => iLine_any x y u v count w
  generalize lnB x y u v count = q at *
  generalize sel q count.toNat = N at *
  generalize lnX x u (lnC count) = U at *
  generalize lnX y v (lnC count) = V at *
  go_enter Try.func4, Try.ntmps4
  go_wp2_with fail
  generalize hW : World.alloc _ _ = W at *
  have hbW : Below w.heap.size w W := by subst hW; (repeat (first | with_reducible exact Below.refl _ _ | with_reducible assumption | with_reducible refine up_alloc ?_ _ | with_reducible refine up_drew ?_ | with_reducible refine up_drewN ?_ _ | (with_reducible refine up_set ?_ ?hset _; case hset => first | (simp; done) | (simp; omega) | omega) | with_reducible refine up_trans ?_ (by with_reducible assumption)))
  have k0 : W.cell? ⟨w.heap.size, 0, none⟩ = some (.int .i64 x) := by subst hW; simp [go_sem]
  have k1 : W.cell? ⟨w.heap.size, 1, none⟩ = some (.int .i64 y) := by subst hW; simp [go_sem]
  have k2 : W.cell? ⟨w.heap.size + 1, 0, none⟩ = some (.int .i64 u) := by subst hW; simp [go_sem]
  have k3 : W.cell? ⟨w.heap.size + 1, 1, none⟩ = some (.int .i64 v) := by subst hW; simp [go_sem]
  clear hW
  have hW0 := Below.refl W.heap.size W
  go_region_held3 (fun w' => w'.cell? ⟨w.heap.size, 0, none⟩ = some (.int .i64 x) ∧ w'.cell? ⟨w.heap.size, 1, none⟩ = some (.int .i64 y) ∧ w'.cell? ⟨w.heap.size + 1, 0, none⟩ = some (.int .i64 u) ∧ w'.cell? ⟨w.heap.size + 1, 1, none⟩ = some (.int .i64 v)) (first | exact ⟨by assumption, by assumption, by assumption, by assumption⟩ | go_keep) (first | (go_at_call 22; refine (toSpot_any _ _ _).mono ?_; rintro e wt ⟨rfl, hbt⟩; have hk0 := up_keep (show Below W.heap.size W wt from (by (repeat (first | with_reducible exact Below.refl _ _ | with_reducible assumption | with_reducible refine up_alloc ?_ _ | with_reducible refine up_drew ?_ | with_reducible refine up_drewN ?_ _ | (with_reducible refine up_set ?_ ?hset _; case hset => first | (simp; done) | (simp; omega) | omega) | with_reducible refine up_trans ?_ (by with_reducible assumption))))) k0; have hk1 := up_keep (show Below W.heap.size W wt from (by (repeat (first | with_reducible exact Below.refl _ _ | with_reducible assumption | with_reducible refine up_alloc ?_ _ | with_reducible refine up_drew ?_ | with_reducible refine up_drewN ?_ _ | (with_reducible refine up_set ?_ ?hset _; case hset => first | (simp; done) | (simp; omega) | omega) | with_reducible refine up_trans ?_ (by with_reducible assumption))))) k1; have hk2 := up_keep (show Below W.heap.size W wt from (by (repeat (first | with_reducible exact Below.refl _ _ | with_reducible assumption | with_reducible refine up_alloc ?_ _ | with_reducible refine up_drew ?_ | with_reducible refine up_drewN ?_ _ | (with_reducible refine up_set ?_ ?hset _; case hset => first | (simp; done) | (simp; omega) | omega) | with_reducible refine up_trans ?_ (by with_reducible assumption))))) k2; have hk3 := up_keep (show Below W.heap.size W wt from (by (repeat (first | with_reducible exact Below.refl _ _ | with_reducible assumption | with_reducible refine up_alloc ?_ _ | with_reducible refine up_drew ?_ | with_reducible refine up_drewN ?_ _ | (with_reducible refine up_set ?_ ?hset _; case hset => first | (simp; done) | (simp; omega) | omega) | with_reducible refine up_trans ?_ (by with_reducible assumption))))) k3) | (go_at_call 21; refine (HS _).mono ?_; rintro e w1 ⟨rS, rfl, h0, hbt⟩; have h_rS_1 := OwnS.more h0 (show Below W.heap.size W _ from (by (repeat (first | with_reducible exact Below.refl _ _ | with_reducible assumption | with_reducible refine up_alloc ?_ _ | with_reducible refine up_drew ?_ | with_reducible refine up_drewN ?_ _ | (with_reducible refine up_set ?_ ?hset _; case hset => first | (simp; done) | (simp; omega) | omega) | with_reducible refine up_trans ?_ (by with_reducible assumption))))).size; have hb0 := (show Below W.heap.size W w1 from (by (repeat (first | with_reducible exact Below.refl _ _ | with_reducible assumption | with_reducible refine up_alloc ?_ _ | with_reducible refine up_drew ?_ | with_reducible refine up_drewN ?_ _ | (with_reducible refine up_set ?_ ?hset _; case hset => first | (simp; done) | (simp; omega) | omega) | with_reducible refine up_trans ?_ (by with_reducible assumption))))); have hk0 := up_keep hb0 k0; have hk1 := up_keep hb0 k1; have hk2 := up_keep hb0 k2; have hk3 := up_keep hb0 k3; clear h0))
  all_goals
    have hz0 := hb0.size
    have hW1 := up_trans hW0 hb0
    go_wp2_with fail
    have k0_1 := up_keep hb0 k0
    have k1_1 := up_keep hb0 k1
    have k2_1 := up_keep hb0 k2
    have k3_1 := up_keep hb0 k3
    go_region_held3 (fun w' => w'.cell? ⟨w.heap.size, 0, none⟩ = some (.int .i64 x) ∧ w'.cell? ⟨w.heap.size, 1, none⟩ = some (.int .i64 y) ∧ w'.cell? ⟨w.heap.size + 1, 0, none⟩ = some (.int .i64 u) ∧ w'.cell? ⟨w.heap.size + 1, 1, none⟩ = some (.int .i64 v)) (first | exact ⟨by assumption, by assumption, by assumption, by assumption⟩ | go_keep) (first | (go_at_call 22; refine (toSpot_any _ _ _).mono ?_; rintro e wt ⟨rfl, hbt⟩; have hk0 := up_keep (show Below w1.heap.size w1 wt from (by (repeat (first | with_reducible exact Below.refl _ _ | with_reducible assumption | with_reducible refine up_alloc ?_ _ | with_reducible refine up_drew ?_ | with_reducible refine up_drewN ?_ _ | (with_reducible refine up_set ?_ ?hset _; case hset => first | (simp; done) | (simp; omega) | omega) | with_reducible refine up_trans ?_ (by with_reducible assumption))))) k0_1; have hk1 := up_keep (show Below w1.heap.size w1 wt from (by (repeat (first | with_reducible exact Below.refl _ _ | with_reducible assumption | with_reducible refine up_alloc ?_ _ | with_reducible refine up_drew ?_ | with_reducible refine up_drewN ?_ _ | (with_reducible refine up_set ?_ ?hset _; case hset => first | (simp; done) | (simp; omega) | omega) | with_reducible refine up_trans ?_ (by with_reducible assumption))))) k1_1; have hk2 := up_keep (show Below w1.heap.size w1 wt from (by (repeat (first | with_reducible exact Below.refl _ _ | with_reducible assumption | with_reducible refine up_alloc ?_ _ | with_reducible refine up_drew ?_ | with_reducible refine up_drewN ?_ _ | (with_reducible refine up_set ?_ ?hset _; case hset => first | (simp; done) | (simp; omega) | omega) | with_reducible refine up_trans ?_ (by with_reducible assumption))))) k2_1; have hk3 := up_keep (show Below w1.heap.size w1 wt from (by (repeat (first | with_reducible exact Below.refl _ _ | with_reducible assumption | with_reducible refine up_alloc ?_ _ | with_reducible refine up_drew ?_ | with_reducible refine up_drewN ?_ _ | (with_reducible refine up_set ?_ ?hset _; case hset => first | (simp; done) | (simp; omega) | omega) | with_reducible refine up_trans ?_ (by with_reducible assumption))))) k3_1) | (go_at_call 23; refine (HI _).mono ?_; rintro e w2 ⟨rI, rfl, h0, hbt⟩; have h_rI_2 := OwnS.more h0 (show Below w1.heap.size w1 _ from (by (repeat (first | with_reducible exact Below.refl _ _ | with_reducible assumption | with_reducible refine up_alloc ?_ _ | with_reducible refine up_drew ?_ | with_reducible refine up_drewN ?_ _ | (with_reducible refine up_set ?_ ?hset _; case hset => first | (simp; done) | (simp; omega) | omega) | with_reducible refine up_trans ?_ (by with_reducible assumption))))).size; have hb1 := (show Below w1.heap.size w1 w2 from (by (repeat (first | with_reducible exact Below.refl _ _ | with_reducible assumption | with_reducible refine up_alloc ?_ _ | with_reducible refine up_drew ?_ | with_reducible refine up_drewN ?_ _ | (with_reducible refine up_set ?_ ?hset _; case hset => first | (simp; done) | (simp; omega) | omega) | with_reducible refine up_trans ?_ (by with_reducible assumption))))); have hk0 := up_keep hb1 k0_1; have hk1 := up_keep hb1 k1_1; have hk2 := up_keep hb1 k2_1; have hk3 := up_keep hb1 k3_1; clear h0))
    all_goals
      have hz1 := hb1.size
      have hW2 := up_trans hW1 hb1
      have h_rS_2 := h_rS_1.up hb1
      go_wp2_with fail
      refine (eqSpotS_g rI rS _ _ _ _ h_rI_2.spots h_rS_2.spots (by omega)).mono ?_
      rintro e w3 ⟨rfl, hb2⟩
      have hz2 := hb2.size
      have hW3 := up_trans hW2 hb2
      have h_rI_3 := h_rI_2.up hb2
      go_wp2_with fail
      refine (markSpotS_g _ rI _ _ _ 1 _ h_rI_3 (by omega) (by omega) (by omega)).mono ?_
      rintro e w4 ⟨rfl, hg3, h_rI_4⟩
      have hz3 := hg3.size
      have hB3 : Below w1.heap.size w3 w4 := below_old h_rI_3 hg3 (by omega)
      have hW4 := hW3.trans (hB3.mono (by omega))
      go_wp2_with fail
      refine (heldSpotS_g rI _ 1 _ h_rI_4.spots (by omega) (by omega) (by omega)).mono ?_
      rintro e w5 ⟨rfl, hb4⟩
      have hz4 := hb4.size
      have hW5 := up_trans hW4 hb4
      have k0_2 := up_keep hb1 k0_1
      have k0_3 := up_keep hb2 k0_2
      have k0_4 := cell_old k0_1 k0_3 hB3
      have k0_5 := up_keep hb4 k0_4
      have k1_2 := up_keep hb1 k1_1
      have k1_3 := up_keep hb2 k1_2
      have k1_4 := cell_old k1_1 k1_3 hB3
      have k1_5 := up_keep hb4 k1_4
      have k2_2 := up_keep hb1 k2_1
      have k2_3 := up_keep hb2 k2_2
      have k2_4 := cell_old k2_1 k2_3 hB3
      have k2_5 := up_keep hb4 k2_4
      have k3_2 := up_keep hb1 k3_1
      have k3_3 := up_keep hb2 k3_2
      have k3_4 := cell_old k3_1 k3_3 hB3
      have k3_5 := up_keep hb4 k3_4
      go_wp2_with fail
      go_region_held3 (fun w' => w'.cell? ⟨w.heap.size, 0, none⟩ = some (.int .i64 x) ∧ w'.cell? ⟨w.heap.size, 1, none⟩ = some (.int .i64 y) ∧ w'.cell? ⟨w.heap.size + 1, 0, none⟩ = some (.int .i64 u) ∧ w'.cell? ⟨w.heap.size + 1, 1, none⟩ = some (.int .i64 v)) (first | exact ⟨by assumption, by assumption, by assumption, by assumption⟩ | go_keep) (first | (go_at_call 22; refine (toSpot_any _ _ _).mono ?_; rintro e wt ⟨rfl, hbt⟩; have hk0 := up_keep (show Below w5.heap.size w5 wt from (by (repeat (first | with_reducible exact Below.refl _ _ | with_reducible assumption | with_reducible refine up_alloc ?_ _ | with_reducible refine up_drew ?_ | with_reducible refine up_drewN ?_ _ | (with_reducible refine up_set ?_ ?hset _; case hset => first | (simp; done) | (simp; omega) | omega) | with_reducible refine up_trans ?_ (by with_reducible assumption))))) k0_5; have hk1 := up_keep (show Below w5.heap.size w5 wt from (by (repeat (first | with_reducible exact Below.refl _ _ | with_reducible assumption | with_reducible refine up_alloc ?_ _ | with_reducible refine up_drew ?_ | with_reducible refine up_drewN ?_ _ | (with_reducible refine up_set ?_ ?hset _; case hset => first | (simp; done) | (simp; omega) | omega) | with_reducible refine up_trans ?_ (by with_reducible assumption))))) k1_5; have hk2 := up_keep (show Below w5.heap.size w5 wt from (by (repeat (first | with_reducible exact Below.refl _ _ | with_reducible assumption | with_reducible refine up_alloc ?_ _ | with_reducible refine up_drew ?_ | with_reducible refine up_drewN ?_ _ | (with_reducible refine up_set ?_ ?hset _; case hset => first | (simp; done) | (simp; omega) | omega) | with_reducible refine up_trans ?_ (by with_reducible assumption))))) k2_5; have hk3 := up_keep (show Below w5.heap.size w5 wt from (by (repeat (first | with_reducible exact Below.refl _ _ | with_reducible assumption | with_reducible refine up_alloc ?_ _ | with_reducible refine up_drew ?_ | with_reducible refine up_drewN ?_ _ | (with_reducible refine up_set ?_ ?hset _; case hset => first | (simp; done) | (simp; omega) | omega) | with_reducible refine up_trans ?_ (by with_reducible assumption))))) k3_5) | (go_at_call 23; refine (HI _).mono ?_; rintro e w6 ⟨rH, rfl, h0, hbt⟩; have h_rH_6 := OwnS.more h0 (show Below w5.heap.size w5 _ from (by (repeat (first | with_reducible exact Below.refl _ _ | with_reducible assumption | with_reducible refine up_alloc ?_ _ | with_reducible refine up_drew ?_ | with_reducible refine up_drewN ?_ _ | (with_reducible refine up_set ?_ ?hset _; case hset => first | (simp; done) | (simp; omega) | omega) | with_reducible refine up_trans ?_ (by with_reducible assumption))))).size; have hb5 := (show Below w5.heap.size w5 w6 from (by (repeat (first | with_reducible exact Below.refl _ _ | with_reducible assumption | with_reducible refine up_alloc ?_ _ | with_reducible refine up_drew ?_ | with_reducible refine up_drewN ?_ _ | (with_reducible refine up_set ?_ ?hset _; case hset => first | (simp; done) | (simp; omega) | omega) | with_reducible refine up_trans ?_ (by with_reducible assumption))))); have hk0 := up_keep hb5 k0_5; have hk1 := up_keep hb5 k1_5; have hk2 := up_keep hb5 k2_5; have hk3 := up_keep hb5 k3_5; clear h0))
      all_goals
        have hz5 := hb5.size
        have hW6 := up_trans hW5 hb5
        have h_rS_3 := h_rS_2.up hb2
        have h_rS_4 := Spots.old h_rS_1.spots h_rS_3.spots hB3
        have h_rS_5 := h_rS_4.up hb4
        have h_rS_6 := h_rS_5.up hb5
        go_wp2_with fail
        refine (eqSpotS_g rH rS _ _ _ _ h_rH_6.spots h_rS_6 (by omega)).mono ?_
        rintro e w7 ⟨rfl, hb6⟩
        have hz6 := hb6.size
        have hW7 := up_trans hW6 hb6
        have h_rI_5 := h_rI_4.up hb4
        have h_rI_6 := h_rI_5.up hb5
        have h_rI_7 := h_rI_6.up hb6
        go_wp2_with fail
        refine (heldSpotS_g rI _ 1 _ h_rI_7.spots (by omega) (by omega) (by omega)).mono ?_
        rintro e w8 ⟨rfl, hb7⟩
        have hz7 := hb7.size
        have hW8 := up_trans hW7 hb7
        go_wp2_with fail
        go_ret
        exact Ans.bool rfl (hbW.trans (hW8.mono hbW.size))

set_option maxRecDepth 100000 in
theorem fnExactLineOf_law : LawWalk Try.prog 4 Try.f4 := by
  intro H enc W base args ds ps hval hA
  rw [Try.params4] at hval hA
  obtain ⟨v0, v1, v2, d0, d1, d2, p0, p1, p2, rfl, h0, h1, h2⟩ := args3 hA
  obtain ⟨x, y, rfl⟩ := open_spot (hval 0 _ v0 rfl rfl) h0
  obtain ⟨u, v, rfl⟩ := open_spot (hval 1 _ v1 rfl rfl) h1
  obtain ⟨a, rfl, _⟩ := open_int Try.underlying3 (hval 2 _ v2 rfl rfl) h2
  exact fnExactLineOf_walk _ _ _ _ _ _

set_option maxRecDepth 100000 in
theorem fnExactLineOf_holds : Rows.FnExactLineOfSaid :=
  OpenClaim.holds_of_wide 4 Try.f4 rfl rfl rfl rfl rfl rfl rfl ⟨rfl, rfl, rfl, rfl, rfl⟩ rfl rfl rfl rfl rfl (by kernel_rfl) Try.func4 (by kernel_rfl)
    (of_decide_eq_true (by kernel_rfl)) (by unfold Func.isWrapper; first | (rw [if_pos (by decide +kernel)]; kernel_rfl) | (rw [if_neg (by decide +kernel)]; exact ⟨rfl, rfl⟩))
    (fun os started H enc _ => lifted_of (C := Try.checked) (s := Rows.fnExactLineOfSpec) (tb := 4) (by kernel_rfl) (by kernel_rfl) (by kernel_rfl) (by kernel_rfl) Try.func4 rfl Try.underlying4 rfl
      (fun H ds h => by
        have h2 : ds.length = 3 := by rw [Try.params4] at h; exact h
        match ds, h2 with
        | [_, _, _], _ => rfl)
      fnExactLineOf_law os started H enc
      (ChangeSpec.witness6 (enc := enc) (C := Try.checked) false ⟨#[], #[.agg #[.int .i64 0, .int .i64 0], .agg #[.int .i64 0, .int .i64 0], .int .i64 0], []⟩ 8 (by kernel_rfl) (by kernel_rfl) (by kernel_rfl) (by kernel_rfl)))

#print axioms fnExactLineOf_holds
end Go.Proofs.Ytccipfpbaeoggaa
