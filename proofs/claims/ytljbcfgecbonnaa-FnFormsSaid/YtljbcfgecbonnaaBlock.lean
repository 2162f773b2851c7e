/-
  BlockOf on both sides.
-/
import Derived.Test.YtljbcfgecbonnaaRows
import Derived.Test.YtljbcfgecbonnaaBase
import Derived.Test.YtljbcfgecbonnaaSpot
import Derived.Test.YtljbcfgecbonnaaSlice
import Derived.Test.YtljbcfgecbonnaaChart
import Derived.Test.YtljbcfgecbonnaaAppend
import Derived.Test.YtljbcfgecbonnaaAppendE
import Derived.Test.YtljbcfgecbonnaaForm
import Derived.Test.YtljbcfgecbonnaaLawS
import Derived.Test.YtljbcfgecbonnaaMark
import Derived.Test.YtljbcfgecbonnaaOpen
namespace Go.Proofs.Ytljbcfgecbonnaa
open Go.RowKit Go.Sort Go.ChangeShapes Go.WideShapes

set_option maxHeartbeats 400000 in
theorem fmCount_any (n : Int) (w : World) : Calls Try.prog 115 #[.int .i64 n] w fun e w' => e = .returned (.bool (inB n 1 12)) ∧ w = w' := by
  go_enter Try.func115, Try.ntmps115
  go_wp2_with ((go_at_call 101; refine (l1In_any _ _ _ _).mono ?_; rintro e w1 ⟨rfl, rfl⟩))
  go_ret
  exact ⟨rfl, rfl⟩
/-- The block's spots. -/
def blX (x fx : Int) (F : Nat) (i : Nat) : Int := x + fx * ((i % F : Nat) : Int)
def blY (y fy : Int) (F : Nat) (i : Nat) : Int := y + fy * ((i / F : Nat) : Int)
def blOk (x y rows files fx fy : Int) : Bool := spotB x y && inB rows 1 12 && inB files 1 12 && inB fx (-200) 200 && inB fy (-200) 200
def blB (x y rows files fx fy : Int) : Bool := blOk x y rows files fx fy && chartB (rows * files).toNat (blX x fx files.toNat) (blY y fy files.toNat)
theorem bl_at (x fx : Int) (F r f : Nat) (h : f < F) : blX x fx F (r * F + f) = x + fx * (f : Int) := by
  unfold blX; rw [show (r * F + f) % F = f by rw [Nat.add_comm, Nat.add_mul_mod_self_right]; exact Nat.mod_eq_of_lt h]
theorem bl_at' (y fy : Int) (F r f : Nat) (h : f < F) : blY y fy F (r * F + f) = y + fy * (r : Int) := by
  unfold blY; rw [show (r * F + f) / F = r by rw [Nat.add_comm, Nat.add_mul_div_right _ _ (by omega), Nat.div_eq_of_lt h, Nat.zero_add]]
set_option maxHeartbeats 2000000 in
theorem iBlock_any (x y rows files fx fy : Int) (w : World) :
    Calls Try.prog 44 #[.agg #[.int .i64 x, .int .i64 y], .int .i64 rows, .int .i64 files, .int .i64 fx, .int .i64 fy] w
      (AnsSB w (sel (blB x y rows files fx fy) (rows * files).toNat) (blX x fx files.toNat) (blY y fy files.toNat) (blB x y rows files fx fy)) := by
  cases hv : blOk x y rows files fx fy with
  | false =>
    rw [show blB x y rows files fx fy = false by simp [blB, hv]]
    unfold blOk at hv
    go_enter Try.func44, Try.ntmps44
    go_wp2_with (first | (go_at_call 90; refine (isSpot_any _ _ _).mono ?_; rintro e w1 ⟨rfl, hb⟩) | (go_at_call 89; refine (within_any _ _ _ _).mono ?_; rintro e w1 ⟨rfl, rfl⟩))
    all_goals first
      | (exfalso; simp_all; done)
      | (go_ret2; exact AnsSB.nil (by (repeat (first | with_reducible exact Below.refl _ _ | with_reducible assumption | with_reducible refine up_alloc ?_ _ | with_reducible refine up_drew ?_ | with_reducible refine up_drewN ?_ _ | (with_reducible refine up_set ?_ ?hset _; case hset => first | (simp; done) | (simp; omega) | omega) | with_reducible refine up_trans ?_ (by with_reducible assumption)))))
  | true =>
    rw [show blB x y rows files fx fy = chartB (rows * files).toNat (blX x fx files.toNat) (blY y fy files.toNat) by simp [blB, hv]]
    simp only [blOk, Bool.and_eq_true] at hv
    obtain ⟨⟨⟨⟨v1, v2⟩, v3⟩, v4⟩, v5⟩ := hv
    have v1' := spotB_iff.1 v1
    have v2' := inB_iff.1 v2
    have v3' := inB_iff.1 v3
    have v4' := inB_iff.1 v4
    have v5' := inB_iff.1 v5
    obtain ⟨⟨a1, a2⟩, a3, a4⟩ := v1'
    obtain ⟨b1, b2⟩ := v2'
    obtain ⟨c1, c2⟩ := v3'
    obtain ⟨d1, d2⟩ := v4'
    obtain ⟨e1, e2⟩ := v5'
    obtain ⟨R, rfl⟩ : ∃ R : Nat, rows = R := ⟨rows.toNat, by omega⟩
    obtain ⟨F, rfl⟩ : ∃ F : Nat, files = F := ⟨files.toNat, by omega⟩
    rw [show ((F : Int)).toNat = F by omega, show ((R : Int) * (F : Int)).toNat = R * F from Int.toNat_natCast (R * F)]
    have hRF : R * F ≤ 144 := Nat.mul_le_mul (show R ≤ 12 by omega) (show F ≤ 12 by omega)
    have HB := Lib.hid hRF
    clear hRF
    go_enter Try.func44, Try.ntmps44
    go_wp2_with (first | (go_at_call 90; refine (isSpot_any _ _ _).mono ?_; rintro e w1 ⟨rfl, hb⟩) | (go_at_call 89; refine (within_any _ _ _ _).mono ?_; rintro e w1 ⟨rfl, rfl⟩))
    generalize hW : World.alloc w _ = W at *
    have hbW : Below w.heap.size w W := by subst hW; (repeat (first | with_reducible exact Below.refl _ _ | with_reducible assumption | with_reducible refine up_alloc ?_ _ | with_reducible refine up_drew ?_ | with_reducible refine up_drewN ?_ _ | (with_reducible refine up_set ?_ ?hset _; case hset => first | (simp; done) | (simp; omega) | omega) | with_reducible refine up_trans ?_ (by with_reducible assumption)))
    have k0 : W.cell? ⟨w.heap.size, 0, none⟩ = some (.int .i64 x) := by subst hW; simp [go_sem]
    have k1 : W.cell? ⟨w.heap.size, 1, none⟩ = some (.int .i64 y) := by subst hW; simp [go_sem]
    clear hW v1 v2 v3 v4 v5
    have hz := hb.size
    go_loopw [12, 13] (fun v i wr => ∃ r : Nat, r ≤ R ∧ i = .int .i64 r ∧ OwnR W.heap.size wr v (r * F) (blX x fx F) (blY y fy F) ∧ Below W.heap.size W wr) (fun _ i _ => R - (intOf i).toNat)
    case atStart => exact ⟨0, by omega, rfl, by rw [Nat.zero_mul]; exact OwnR.empty (by omega) _ _, by (repeat (first | with_reducible exact Below.refl _ _ | with_reducible assumption | with_reducible refine up_alloc ?_ _ | with_reducible refine up_drew ?_ | with_reducible refine up_drewN ?_ _ | (with_reducible refine up_set ?_ ?hset _; case hset => first | (simp; done) | (simp; omega) | omega) | with_reducible refine up_trans ?_ (by with_reducible assumption)))⟩
    case round =>
      clear hb
      obtain ⟨r, hr, rfl, how, hb⟩ := hrel
      by_cases hlt : r < R
      · obtain ⟨wo, rfl⟩ : ∃ wo : World, wo = wr := ⟨_, rfl⟩
        go_wp2_with fail
        go_loopw [12, 14] (fun v i wr => ∃ f : Nat, f ≤ F ∧ i = .int .i64 f ∧ OwnR W.heap.size wr v (r * F + f) (blX x fx F) (blY y fy F) ∧ Below W.heap.size W wr) (fun _ i _ => F - (intOf i).toNat)
        case atStart => exact ⟨0, by omega, rfl, how, hb⟩
        case round =>
          clear hb how
          obtain ⟨f, hf, rfl, how, hb⟩ := hrel
          by_cases hlf : f < F
          · have q0 := up_keep hb k0
            have q1 := up_keep hb k1
            have hm1 := mul_bd (a := fx) (b := (f : Int)) (A := 200) (B := 12) (by omega) (by omega) (by omega) (by omega)
            have hm2 := mul_bd (a := fy) (b := (r : Int)) (A := 200) (B := 12) (by omega) (by omega) (by omega) (by omega)
            have hsz := HB.out
            have hin : r * F + f ≤ 144 := by have := Nat.mul_le_mul (show r + 1 ≤ 12 by omega) (show F ≤ 12 by omega); rw [Nat.add_mul, Nat.one_mul] at this; omega
            go_wp2_with (at_builtin; refine wpList_app_spot_e rfl (.tmp 49) (.tmp 63) rfl W.heap.size _ (r * F + f) (blX x fx F) (blY y fy F) rfl rfl (by simp) (OwnR.up how (by (repeat (first | with_reducible exact Below.refl _ _ | with_reducible assumption | with_reducible refine up_alloc ?_ _ | with_reducible refine up_drew ?_ | with_reducible refine up_drewN ?_ _ | (with_reducible refine up_set ?_ ?hset _; case hset => first | (simp; done) | (simp; omega) | omega) | with_reducible refine up_trans ?_ (by with_reducible assumption))))) (show Below W.heap.size W _ from (by (repeat (first | with_reducible exact Below.refl _ _ | with_reducible assumption | with_reducible refine up_alloc ?_ _ | with_reducible refine up_drew ?_ | with_reducible refine up_drewN ?_ _ | (with_reducible refine up_set ?_ ?hset _; case hset => first | (simp; done) | (simp; omega) | omega) | with_reducible refine up_trans ?_ (by with_reducible assumption))))).size (by omega) (bl_at x fx F r f hlf) (bl_at' y fy F r f hlf) ?_; intro v2 w2 ho2 hb2; replace hb2 := (show Below W.heap.size W _ from (by (repeat (first | with_reducible exact Below.refl _ _ | with_reducible assumption | with_reducible refine up_alloc ?_ _ | with_reducible refine up_drew ?_ | with_reducible refine up_drewN ?_ _ | (with_reducible refine up_set ?_ ?hset _; case hset => first | (simp; done) | (simp; omega) | omega) | with_reducible refine up_trans ?_ (by with_reducible assumption))))).trans hb2)
            go_roundw
            case rel => exact ⟨f + 1, by omega, by go_num, ho2, hb2⟩
            case measure => simp [intOf]; omega
          · have e : f = F := by omega
            subst e
            go_wp2_with fail
            go_roundw
            case rel => exact ⟨r + 1, by omega, by go_num, by rw [Nat.add_mul, Nat.one_mul]; exact how, hb⟩
            case measure => simp [intOf]; omega
      · have e : r = R := by omega
        subst e
        have hsz := HB.out
        have hbw := hbW.trans (hb.mono hbW.size)
        go_wp2_with (go_at_call 85; refine (asForm_g _ _ _ _ _ how.ownS.spots (by omega)).mono ?_; rintro e wq ⟨rfl, hbq⟩)
        go_ret2
        exact AnsSB.sel ((how.ownS.more hbW.size).up hbq) (up_trans hbw hbq)
set_option maxHeartbeats 2000000 in
theorem sBlock_any (x y rows files fx fy : Int) (w : World) :
    Calls Try.prog 45 #[.agg #[.int .i64 x, .int .i64 y], .int .i64 rows, .int .i64 files, .int .i64 fx, .int .i64 fy] w
      (AnsSB w (sel (blB x y rows files fx fy) (rows * files).toNat) (blX x fx files.toNat) (blY y fy files.toNat) (blB x y rows files fx fy)) := by
  cases hv : blOk x y rows files fx fy with
  | false =>
    rw [show blB x y rows files fx fy = false by simp [blB, hv]]
    unfold blOk at hv
    go_enter Try.func45, Try.ntmps45
    go_wp2_with (first | (go_at_call 118; refine (stGood_any _ _ _).mono ?_; rintro e w1 ⟨rfl, hb⟩) | (go_at_call 101; refine (l1In_any _ _ _ _).mono ?_; rintro e w1 ⟨rfl, rfl⟩) | (go_at_call 115; refine (fmCount_any _ _).mono ?_; rintro e w1 ⟨rfl, rfl⟩))
    all_goals first
      | (exfalso; simp_all; done)
      | (go_ret2; exact AnsSB.nil (by (repeat (first | with_reducible exact Below.refl _ _ | with_reducible assumption | with_reducible refine up_alloc ?_ _ | with_reducible refine up_drew ?_ | with_reducible refine up_drewN ?_ _ | (with_reducible refine up_set ?_ ?hset _; case hset => first | (simp; done) | (simp; omega) | omega) | with_reducible refine up_trans ?_ (by with_reducible assumption)))))
  | true =>
    rw [show blB x y rows files fx fy = chartB (rows * files).toNat (blX x fx files.toNat) (blY y fy files.toNat) by simp [blB, hv]]
    simp only [blOk, Bool.and_eq_true] at hv
    obtain ⟨⟨⟨⟨v1, v2⟩, v3⟩, v4⟩, v5⟩ := hv
    have v1' := spotB_iff.1 v1
    have v2' := inB_iff.1 v2
    have v3' := inB_iff.1 v3
    have v4' := inB_iff.1 v4
    have v5' := inB_iff.1 v5
    obtain ⟨⟨a1, a2⟩, a3, a4⟩ := v1'
    obtain ⟨b1, b2⟩ := v2'
    obtain ⟨c1, c2⟩ := v3'
    obtain ⟨d1, d2⟩ := v4'
    obtain ⟨e1, e2⟩ := v5'
    obtain ⟨R, rfl⟩ : ∃ R : Nat, rows = R := ⟨rows.toNat, by omega⟩
    obtain ⟨F, rfl⟩ : ∃ F : Nat, files = F := ⟨files.toNat, by omega⟩
    rw [show ((F : Int)).toNat = F by omega, show ((R : Int) * (F : Int)).toNat = R * F from Int.toNat_natCast (R * F)]
    have hRF : R * F ≤ 144 := Nat.mul_le_mul (show R ≤ 12 by omega) (show F ≤ 12 by omega)
    have HB := Lib.hid hRF
    clear hRF
    go_enter Try.func45, Try.ntmps45
    go_wp2_with (first | (go_at_call 118; refine (stGood_any _ _ _).mono ?_; rintro e w1 ⟨rfl, hb⟩) | (go_at_call 101; refine (l1In_any _ _ _ _).mono ?_; rintro e w1 ⟨rfl, rfl⟩) | (go_at_call 115; refine (fmCount_any _ _).mono ?_; rintro e w1 ⟨rfl, rfl⟩))
    generalize hW : World.alloc w _ = W at *
    have hbW : Below w.heap.size w W := by subst hW; (repeat (first | with_reducible exact Below.refl _ _ | with_reducible assumption | with_reducible refine up_alloc ?_ _ | with_reducible refine up_drew ?_ | with_reducible refine up_drewN ?_ _ | (with_reducible refine up_set ?_ ?hset _; case hset => first | (simp; done) | (simp; omega) | omega) | with_reducible refine up_trans ?_ (by with_reducible assumption)))
    have k0 : W.cell? ⟨w.heap.size, 0, none⟩ = some (.int .i64 x) := by subst hW; simp [go_sem]
    have k1 : W.cell? ⟨w.heap.size, 1, none⟩ = some (.int .i64 y) := by subst hW; simp [go_sem]
    clear hW v1 v2 v3 v4 v5
    have hz := hb.size
    go_loopw [12, 13] (fun v i wr => ∃ r : Nat, r ≤ R ∧ i = .int .i64 r ∧ OwnR W.heap.size wr v (r * F) (blX x fx F) (blY y fy F) ∧ Below W.heap.size W wr) (fun _ i _ => R - (intOf i).toNat)
    case atStart => exact ⟨0, by omega, rfl, by rw [Nat.zero_mul]; exact OwnR.nil _ _ _ _, by (repeat (first | with_reducible exact Below.refl _ _ | with_reducible assumption | with_reducible refine up_alloc ?_ _ | with_reducible refine up_drew ?_ | with_reducible refine up_drewN ?_ _ | (with_reducible refine up_set ?_ ?hset _; case hset => first | (simp; done) | (simp; omega) | omega) | with_reducible refine up_trans ?_ (by with_reducible assumption)))⟩
    case round =>
      clear hb
      obtain ⟨r, hr, rfl, how, hb⟩ := hrel
      by_cases hlt : r < R
      · obtain ⟨wo, rfl⟩ : ∃ wo : World, wo = wr := ⟨_, rfl⟩
        go_wp2_with fail
        go_loopw [12, 14] (fun v i wr => ∃ f : Nat, f ≤ F ∧ i = .int .i64 f ∧ OwnR W.heap.size wr v (r * F + f) (blX x fx F) (blY y fy F) ∧ Below W.heap.size W wr) (fun _ i _ => F - (intOf i).toNat)
        case atStart => exact ⟨0, by omega, rfl, how, hb⟩
        case round =>
          clear hb how
          obtain ⟨f, hf, rfl, how, hb⟩ := hrel
          by_cases hlf : f < F
          · have q0 := up_keep hb k0
            have q1 := up_keep hb k1
            have hm1 := mul_bd (a := fx) (b := (f : Int)) (A := 200) (B := 12) (by omega) (by omega) (by omega) (by omega)
            have hm2 := mul_bd (a := fy) (b := (r : Int)) (A := 200) (B := 12) (by omega) (by omega) (by omega) (by omega)
            have hsz := HB.out
            have hin : r * F + f ≤ 144 := by have := Nat.mul_le_mul (show r + 1 ≤ 12 by omega) (show F ≤ 12 by omega); rw [Nat.add_mul, Nat.one_mul] at this; omega
            go_wp2_with (at_builtin; refine wpList_app_spot_e rfl (.tmp 48) (.tmp 62) rfl W.heap.size _ (r * F + f) (blX x fx F) (blY y fy F) rfl rfl (by simp) (OwnR.up how (by (repeat (first | with_reducible exact Below.refl _ _ | with_reducible assumption | with_reducible refine up_alloc ?_ _ | with_reducible refine up_drew ?_ | with_reducible refine up_drewN ?_ _ | (with_reducible refine up_set ?_ ?hset _; case hset => first | (simp; done) | (simp; omega) | omega) | with_reducible refine up_trans ?_ (by with_reducible assumption))))) (show Below W.heap.size W _ from (by (repeat (first | with_reducible exact Below.refl _ _ | with_reducible assumption | with_reducible refine up_alloc ?_ _ | with_reducible refine up_drew ?_ | with_reducible refine up_drewN ?_ _ | (with_reducible refine up_set ?_ ?hset _; case hset => first | (simp; done) | (simp; omega) | omega) | with_reducible refine up_trans ?_ (by with_reducible assumption))))).size (by omega) (bl_at x fx F r f hlf) (bl_at' y fy F r f hlf) ?_; intro v2 w2 ho2 hb2; replace hb2 := (show Below W.heap.size W _ from (by (repeat (first | with_reducible exact Below.refl _ _ | with_reducible assumption | with_reducible refine up_alloc ?_ _ | with_reducible refine up_drew ?_ | with_reducible refine up_drewN ?_ _ | (with_reducible refine up_set ?_ ?hset _; case hset => first | (simp; done) | (simp; omega) | omega) | with_reducible refine up_trans ?_ (by with_reducible assumption))))).trans hb2)
            go_roundw
            case rel => exact ⟨f + 1, by omega, by go_num, ho2, hb2⟩
            case measure => simp [intOf]; omega
          · have e : f = F := by omega
            subst e
            go_wp2_with fail
            go_roundw
            case rel => exact ⟨r + 1, by omega, by go_num, by rw [Nat.add_mul, Nat.one_mul]; exact how, hb⟩
            case measure => simp [intOf]; omega
      · have e : r = R := by omega
        subst e
        have hsz := HB.out
        have hbw := hbW.trans (hb.mono hbW.size)
        go_wp2_with (go_at_call 87; refine (chIf_g _ _ _ _ _ how.ownS.spots (by omega)).mono ?_; rintro e wq ⟨rfl, hbq⟩)
        go_ret2
        exact AnsSB.sel ((how.ownS.more hbW.size).up hbq) (up_trans hbw hbq)
end Go.Proofs.Ytljbcfgecbonnaa
