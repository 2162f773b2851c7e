/-
  WedgeOf on both sides.
-/
import Derived.Test.YtljbcfgecbonnaaRows
import Derived.Test.YtljbcfgecbonnaaBase
import Derived.Test.YtljbcfgecbonnaaSpot
import Derived.Test.YtljbcfgecbonnaaSlice
import Derived.Test.YtljbcfgecbonnaaChart
import Derived.Test.YtljbcfgecbonnaaAppend
import Derived.Test.YtljbcfgecbonnaaAppendE
import Derived.Test.YtljbcfgecbonnaaForm
import Derived.Test.YtljbcfgecbonnaaLawS
import Derived.Test.YtljbcfgecbonnaaMark
import Derived.Test.YtljbcfgecbonnaaOpen
import Derived.Test.YtljbcfgecbonnaaTrod
import Derived.Test.YtljbcfgecbonnaaBlock
namespace Go.Proofs.Ytljbcfgecbonnaa
open Go.RowKit Go.Sort Go.ChangeShapes Go.WideShapes

/-- The wedge's spots: the i-th lies in rank (i + 1) / 2, on the right if i is odd. -/
def weX (x fx : Int) (i : Nat) : Int := if i % 2 = 1 then x + ((i + 1) / 2 : Nat) * fx else x - ((i + 1) / 2 : Nat) * fx
def weY (y fy : Int) (i : Nat) : Int := y + ((i + 1) / 2 : Nat) * fy
def weOk (x y count fx fy : Int) : Bool := spotB x y && inB count 1 12 && inB fx (-200) 200 && inB fy (-200) 200
def weB (x y count fx fy : Int) : Bool := weOk x y count fx fy && chartB count.toNat (weX x fx) (weY y fy)
theorem we0 (x fx : Int) : weX x fx 0 = x := by simp [weX]
theorem we0' (y fy : Int) : weY y fy 0 = y := by simp [weY]
theorem we1 (x fx : Int) (k n : Nat) (hk : 1 ≤ k) (h : n = 2 * k - 1) : weX x fx n = x + (k : Int) * fx := by
  unfold weX; rw [if_pos (by omega), show (n + 1) / 2 = k by omega]
theorem we2 (x fx : Int) (k n : Nat) (hk : 1 ≤ k) (h : n = 2 * k - 1) : weX x fx (n + 1) = x - (k : Int) * fx := by
  unfold weX; rw [if_neg (by omega), show (n + 1 + 1) / 2 = k by omega]
theorem we1' (y fy : Int) (k n : Nat) (hk : 1 ≤ k) (h : n = 2 * k - 1 ∨ n = 2 * k) : weY y fy n = y + (k : Int) * fy := by
  unfold weY; rw [show (n + 1) / 2 = k by omega]
set_option maxHeartbeats 2000000 in
theorem iWedge_any (x y count fx fy : Int) (w : World) :
    Calls Try.prog 47 #[.agg #[.int .i64 x, .int .i64 y], .int .i64 count, .int .i64 fx, .int .i64 fy] w
      (AnsSB w (sel (weB x y count fx fy) count.toNat) (weX x fx) (weY y fy) (weB x y count fx fy)) := by
  cases hv : weOk x y count fx fy with
  | false =>
    rw [show weB x y count fx fy = false by simp [weB, hv]]
    unfold weOk at hv
    go_enter Try.func47, Try.ntmps47
    go_wp2_with (first | (go_at_call 90; refine (isSpot_any _ _ _).mono ?_; rintro e w1 ⟨rfl, hb⟩) | (go_at_call 89; refine (within_any _ _ _ _).mono ?_; rintro e w1 ⟨rfl, rfl⟩))
    all_goals first
      | (exfalso; simp_all; done)
      | (go_ret2; exact AnsSB.nil (by (repeat (first | with_reducible exact Below.refl _ _ | with_reducible assumption | with_reducible refine up_alloc ?_ _ | with_reducible refine up_drew ?_ | with_reducible refine up_drewN ?_ _ | (with_reducible refine up_set ?_ ?hset _; case hset => first | (simp; done) | (simp; omega) | omega) | with_reducible refine up_trans ?_ (by with_reducible assumption)))))
  | true =>
    rw [show weB x y count fx fy = chartB count.toNat (weX x fx) (weY y fy) by simp [weB, hv]]
    simp only [weOk, Bool.and_eq_true] at hv
    obtain ⟨⟨⟨v1, v2⟩, v3⟩, v4⟩ := hv
    have v1' := spotB_iff.1 v1
    have v2' := inB_iff.1 v2
    have v3' := inB_iff.1 v3
    have v4' := inB_iff.1 v4
    obtain ⟨⟨a1, a2⟩, a3, a4⟩ := v1'
    obtain ⟨b1, b2⟩ := v2'
    obtain ⟨d1, d2⟩ := v3'
    obtain ⟨e1, e2⟩ := v4'
    obtain ⟨C, rfl⟩ : ∃ C : Nat, count = C := ⟨count.toNat, by omega⟩
    rw [show ((C : Int)).toNat = C by omega]
    go_enter Try.func47, Try.ntmps47
    go_wp2_with fail
    generalize hW : World.alloc w _ = W at *
    have hbW : Below w.heap.size w W := by subst hW; (repeat (first | with_reducible exact Below.refl _ _ | with_reducible assumption | with_reducible refine up_alloc ?_ _ | with_reducible refine up_drew ?_ | with_reducible refine up_drewN ?_ _ | (with_reducible refine up_set ?_ ?hset _; case hset => first | (simp; done) | (simp; omega) | omega) | with_reducible refine up_trans ?_ (by with_reducible assumption)))
    have k0 : W.cell? ⟨w.heap.size, 0, none⟩ = some (.int .i64 x) := by subst hW; simp [go_sem]
    have k1 : W.cell? ⟨w.heap.size, 1, none⟩ = some (.int .i64 y) := by subst hW; simp [go_sem]
    refine (isSpot_any _ _ _).mono ?_
    rintro e w1 ⟨rfl, hb⟩
    have q0 := up_keep hb k0
    have q1 := up_keep hb k1
    go_wp2_with (first | (go_at_call 90; refine (isSpot_any _ _ _).mono ?_; rintro e w1 ⟨rfl, hb⟩) | (go_at_call 89; refine (within_any _ _ _ _).mono ?_; rintro e w1 ⟨rfl, rfl⟩))
    clear hW v1 v2 v3 v4
    have hz := hb.size
    go_loopw [10, 11] (fun v i wr => ∃ k n : Nat, 1 ≤ k ∧ n ≤ C ∧ (n = 2 * k - 1 ∨ (n = C ∧ C < 2 * k)) ∧ i = .int .i64 k ∧ k ≤ 7 ∧ OwnR W.heap.size wr v n (weX x fx) (weY y fy) ∧ Below W.heap.size W wr) (fun _ i _ => 20 - (intOf i).toNat)
    case atStart => exact ⟨1, 1, by omega, by omega, by omega, rfl, by omega, OwnR.one hb.size (we0 x fx) (we0' y fy), by (repeat (first | with_reducible exact Below.refl _ _ | with_reducible assumption | with_reducible refine up_alloc ?_ _ | with_reducible refine up_drew ?_ | with_reducible refine up_drewN ?_ _ | (with_reducible refine up_set ?_ ?hset _; case hset => first | (simp; done) | (simp; omega) | omega) | with_reducible refine up_trans ?_ (by with_reducible assumption)))⟩
    case round =>
      clear hb
      obtain ⟨k, n, hk1, hn, hkn, rfl, hk7, how, hb⟩ := hrel
      obtain ⟨A, cp, rfl, hcp, hcp'⟩ := OwnR.shape how
      by_cases hlt : n < C
      · have q0 := up_keep hb k0
        have q1 := up_keep hb k1
        have hm1 := mul_bd (a := (k : Int)) (b := fx) (A := 12) (B := 200) (by omega) (by omega) (by omega) (by omega)
        have hm2 := mul_bd (a := (k : Int)) (b := fy) (A := 12) (B := 200) (by omega) (by omega) (by omega) (by omega)
        by_cases hlt2 : n + 1 < C
        · go_wp2_with (first | (at_builtin; refine wpList_app_spot_e rfl (.tmp 38) (.tmp 52) rfl W.heap.size _ n (weX x fx) (weY y fy) rfl rfl (by simp) (OwnR.up how (by (repeat (first | with_reducible exact Below.refl _ _ | with_reducible assumption | with_reducible refine up_alloc ?_ _ | with_reducible refine up_drew ?_ | with_reducible refine up_drewN ?_ _ | (with_reducible refine up_set ?_ ?hset _; case hset => first | (simp; done) | (simp; omega) | omega) | with_reducible refine up_trans ?_ (by with_reducible assumption))))) (show Below W.heap.size W _ from (by (repeat (first | with_reducible exact Below.refl _ _ | with_reducible assumption | with_reducible refine up_alloc ?_ _ | with_reducible refine up_drew ?_ | with_reducible refine up_drewN ?_ _ | (with_reducible refine up_set ?_ ?hset _; case hset => first | (simp; done) | (simp; omega) | omega) | with_reducible refine up_trans ?_ (by with_reducible assumption))))).size (by omega) (we1 x fx k n (by omega) (by omega)) (we1' y fy k n (by omega) (by omega)) ?_; intro v2 w2 ho2 hb2; replace hb2 := (show Below W.heap.size W _ from (by (repeat (first | with_reducible exact Below.refl _ _ | with_reducible assumption | with_reducible refine up_alloc ?_ _ | with_reducible refine up_drew ?_ | with_reducible refine up_drewN ?_ _ | (with_reducible refine up_set ?_ ?hset _; case hset => first | (simp; done) | (simp; omega) | omega) | with_reducible refine up_trans ?_ (by with_reducible assumption))))).trans hb2; obtain ⟨A2, cp2, rfl, hcq, hcq'⟩ := OwnR.shape ho2; have q2 := up_keep hb2 k0; have q3 := up_keep hb2 k1) | (at_builtin; refine wpList_app_spot_e rfl (.tmp 58) (.tmp 72) rfl W.heap.size _ (n + 1) (weX x fx) (weY y fy) rfl rfl (by simp) (OwnR.up ho2 (by (repeat (first | with_reducible exact Below.refl _ _ | with_reducible assumption | with_reducible refine up_alloc ?_ _ | with_reducible refine up_drew ?_ | with_reducible refine up_drewN ?_ _ | (with_reducible refine up_set ?_ ?hset _; case hset => first | (simp; done) | (simp; omega) | omega) | with_reducible refine up_trans ?_ (by with_reducible assumption))))) (show Below W.heap.size W _ from (by (repeat (first | with_reducible exact Below.refl _ _ | with_reducible assumption | with_reducible refine up_alloc ?_ _ | with_reducible refine up_drew ?_ | with_reducible refine up_drewN ?_ _ | (with_reducible refine up_set ?_ ?hset _; case hset => first | (simp; done) | (simp; omega) | omega) | with_reducible refine up_trans ?_ (by with_reducible assumption))))).size (by omega) (we2 x fx k n (by omega) (by omega)) (we1' y fy k (n + 1) (by omega) (by omega)) ?_; intro v3 w3 ho3 hb3; replace hb3 := (show Below W.heap.size W _ from (by (repeat (first | with_reducible exact Below.refl _ _ | with_reducible assumption | with_reducible refine up_alloc ?_ _ | with_reducible refine up_drew ?_ | with_reducible refine up_drewN ?_ _ | (with_reducible refine up_set ?_ ?hset _; case hset => first | (simp; done) | (simp; omega) | omega) | with_reducible refine up_trans ?_ (by with_reducible assumption))))).trans hb3))
          go_roundw
          case rel => exact ⟨k + 1, n + 1 + 1, by omega, by omega, by omega, by go_num, by omega, ho3, hb3⟩
          case measure => simp [intOf]; omega
        · go_wp2_with (at_builtin; refine wpList_app_spot_e rfl (.tmp 38) (.tmp 52) rfl W.heap.size _ n (weX x fx) (weY y fy) rfl rfl (by simp) (OwnR.up how (by (repeat (first | with_reducible exact Below.refl _ _ | with_reducible assumption | with_reducible refine up_alloc ?_ _ | with_reducible refine up_drew ?_ | with_reducible refine up_drewN ?_ _ | (with_reducible refine up_set ?_ ?hset _; case hset => first | (simp; done) | (simp; omega) | omega) | with_reducible refine up_trans ?_ (by with_reducible assumption))))) (show Below W.heap.size W _ from (by (repeat (first | with_reducible exact Below.refl _ _ | with_reducible assumption | with_reducible refine up_alloc ?_ _ | with_reducible refine up_drew ?_ | with_reducible refine up_drewN ?_ _ | (with_reducible refine up_set ?_ ?hset _; case hset => first | (simp; done) | (simp; omega) | omega) | with_reducible refine up_trans ?_ (by with_reducible assumption))))).size (by omega) (we1 x fx k n (by omega) (by omega)) (we1' y fy k n (by omega) (by omega)) ?_; intro v2 w2 ho2 hb2; replace hb2 := (show Below W.heap.size W _ from (by (repeat (first | with_reducible exact Below.refl _ _ | with_reducible assumption | with_reducible refine up_alloc ?_ _ | with_reducible refine up_drew ?_ | with_reducible refine up_drewN ?_ _ | (with_reducible refine up_set ?_ ?hset _; case hset => first | (simp; done) | (simp; omega) | omega) | with_reducible refine up_trans ?_ (by with_reducible assumption))))).trans hb2; obtain ⟨A2, cp2, rfl, hcq, hcq'⟩ := OwnR.shape ho2; have q2 := up_keep hb2 k0; have q3 := up_keep hb2 k1)
          go_roundw
          case rel => exact ⟨k + 1, n + 1, by omega, by omega, by omega, by go_num, by omega, ho2, hb2⟩
          case measure => simp [intOf]; omega
      · have e : n = C := by omega
        subst e
        have hbw := hbW.trans (hb.mono hbW.size)
        go_wp2_with (go_at_call 85; refine (asForm_g _ _ _ _ _ how.ownS.spots (by omega)).mono ?_; rintro e wq ⟨rfl, hbq⟩)
        go_ret2
        exact AnsSB.sel ((how.ownS.more hbW.size).up hbq) (up_trans hbw hbq)
set_option maxHeartbeats 2000000 in
theorem sWedge_any (x y count fx fy : Int) (w : World) :
    Calls Try.prog 48 #[.agg #[.int .i64 x, .int .i64 y], .int .i64 count, .int .i64 fx, .int .i64 fy] w
      (AnsSB w (sel (weB x y count fx fy) count.toNat) (weX x fx) (weY y fy) (weB x y count fx fy)) := by
  cases hv : weOk x y count fx fy with
  | false =>
    rw [show weB x y count fx fy = false by simp [weB, hv]]
    unfold weOk at hv
    go_enter Try.func48, Try.ntmps48
    go_wp2_with (first | (go_at_call 118; refine (stGood_any _ _ _).mono ?_; rintro e w1 ⟨rfl, hb⟩) | (go_at_call 101; refine (l1In_any _ _ _ _).mono ?_; rintro e w1 ⟨rfl, rfl⟩) | (go_at_call 115; refine (fmCount_any _ _).mono ?_; rintro e w1 ⟨rfl, rfl⟩))
    all_goals first
      | (exfalso; simp_all; done)
      | (go_ret2; exact AnsSB.nil (by (repeat (first | with_reducible exact Below.refl _ _ | with_reducible assumption | with_reducible refine up_alloc ?_ _ | with_reducible refine up_drew ?_ | with_reducible refine up_drewN ?_ _ | (with_reducible refine up_set ?_ ?hset _; case hset => first | (simp; done) | (simp; omega) | omega) | with_reducible refine up_trans ?_ (by with_reducible assumption)))))
  | true =>
    rw [show weB x y count fx fy = chartB count.toNat (weX x fx) (weY y fy) by simp [weB, hv]]
    simp only [weOk, Bool.and_eq_true] at hv
    obtain ⟨⟨⟨v1, v2⟩, v3⟩, v4⟩ := hv
    have v1' := spotB_iff.1 v1
    have v2' := inB_iff.1 v2
    have v3' := inB_iff.1 v3
    have v4' := inB_iff.1 v4
    obtain ⟨⟨a1, a2⟩, a3, a4⟩ := v1'
    obtain ⟨b1, b2⟩ := v2'
    obtain ⟨d1, d2⟩ := v3'
    obtain ⟨e1, e2⟩ := v4'
    obtain ⟨C, rfl⟩ : ∃ C : Nat, count = C := ⟨count.toNat, by omega⟩
    rw [show ((C : Int)).toNat = C by omega]
    go_enter Try.func48, Try.ntmps48
    go_wp2_with fail
    generalize hW : World.alloc w _ = W at *
    have hbW : Below w.heap.size w W := by subst hW; (repeat (first | with_reducible exact Below.refl _ _ | with_reducible assumption | with_reducible refine up_alloc ?_ _ | with_reducible refine up_drew ?_ | with_reducible refine up_drewN ?_ _ | (with_reducible refine up_set ?_ ?hset _; case hset => first | (simp; done) | (simp; omega) | omega) | with_reducible refine up_trans ?_ (by with_reducible assumption)))
    have k0 : W.cell? ⟨w.heap.size, 0, none⟩ = some (.int .i64 x) := by subst hW; simp [go_sem]
    have k1 : W.cell? ⟨w.heap.size, 1, none⟩ = some (.int .i64 y) := by subst hW; simp [go_sem]
    refine (stGood_any _ _ _).mono ?_
    rintro e w1 ⟨rfl, hb⟩
    have q0 := up_keep hb k0
    have q1 := up_keep hb k1
    go_wp2_with (first | (go_at_call 118; refine (stGood_any _ _ _).mono ?_; rintro e w1 ⟨rfl, hb⟩) | (go_at_call 101; refine (l1In_any _ _ _ _).mono ?_; rintro e w1 ⟨rfl, rfl⟩) | (go_at_call 115; refine (fmCount_any _ _).mono ?_; rintro e w1 ⟨rfl, rfl⟩))
    clear hW v1 v2 v3 v4
    have hz := hb.size
    go_loopw [10, 11] (fun v i wr => ∃ k n : Nat, 1 ≤ k ∧ n = 2 * k - 1 ∧ n ≤ C + 1 ∧ i = .int .i64 k ∧ k ≤ 7 ∧ OwnR W.heap.size wr v n (weX x fx) (weY y fy) ∧ Below W.heap.size W wr) (fun _ i _ => 20 - (intOf i).toNat)
    case atStart => exact ⟨1, 1, by omega, by omega, by omega, rfl, by omega, OwnR.one hb.size (we0 x fx) (we0' y fy), by (repeat (first | with_reducible exact Below.refl _ _ | with_reducible assumption | with_reducible refine up_alloc ?_ _ | with_reducible refine up_drew ?_ | with_reducible refine up_drewN ?_ _ | (with_reducible refine up_set ?_ ?hset _; case hset => first | (simp; done) | (simp; omega) | omega) | with_reducible refine up_trans ?_ (by with_reducible assumption)))⟩
    case round =>
      clear hb
      obtain ⟨k, n, hk1, hkn, hn, rfl, hk7, how, hb⟩ := hrel
      obtain ⟨A, cp, rfl, hcp, hcp'⟩ := OwnR.shape how
      by_cases hlt : n < C
      · have q0 := up_keep hb k0
        have q1 := up_keep hb k1
        have hm1 := mul_bd (a := (k : Int)) (b := fx) (A := 12) (B := 200) (by omega) (by omega) (by omega) (by omega)
        have hm2 := mul_bd (a := (k : Int)) (b := fy) (A := 12) (B := 200) (by omega) (by omega) (by omega) (by omega)
        go_wp2_with (at_builtin; refine wpList_app_two rfl (.tmp 38) (.tmp 65) rfl W.heap.size _ n (weX x fx) (weY y fy) rfl rfl (by simp) (OwnR.up how (by (repeat (first | with_reducible exact Below.refl _ _ | with_reducible assumption | with_reducible refine up_alloc ?_ _ | with_reducible refine up_drew ?_ | with_reducible refine up_drewN ?_ _ | (with_reducible refine up_set ?_ ?hset _; case hset => first | (simp; done) | (simp; omega) | omega) | with_reducible refine up_trans ?_ (by with_reducible assumption))))) (show Below W.heap.size W _ from (by (repeat (first | with_reducible exact Below.refl _ _ | with_reducible assumption | with_reducible refine up_alloc ?_ _ | with_reducible refine up_drew ?_ | with_reducible refine up_drewN ?_ _ | (with_reducible refine up_set ?_ ?hset _; case hset => first | (simp; done) | (simp; omega) | omega) | with_reducible refine up_trans ?_ (by with_reducible assumption))))).size (by omega) (we1 x fx k n (by omega) (by omega)) (we1' y fy k n (by omega) (by omega)) (we2 x fx k n (by omega) (by omega)) (we1' y fy k (n + 1) (by omega) (by omega)) ?_; intro v2 w2 ho2 hb2; replace hb2 := (show Below W.heap.size W _ from (by (repeat (first | with_reducible exact Below.refl _ _ | with_reducible assumption | with_reducible refine up_alloc ?_ _ | with_reducible refine up_drew ?_ | with_reducible refine up_drewN ?_ _ | (with_reducible refine up_set ?_ ?hset _; case hset => first | (simp; done) | (simp; omega) | omega) | with_reducible refine up_trans ?_ (by with_reducible assumption))))).trans hb2)
        go_roundw
        case rel => exact ⟨k + 1, n + 2, by omega, by omega, by omega, by go_num, by omega, ho2, hb2⟩
        case measure => simp [intOf]; omega
      · have hbw := hbW.trans (hb.mono hbW.size)
        have hot := OwnS.take how.ownS (show C ≤ n by omega)
        go_wp2_with (go_at_call 87; refine (chIf_g _ _ _ _ _ hot.spots (by omega)).mono ?_; rintro e wq ⟨rfl, hbq⟩)
        go_ret2
        exact AnsSB.sel ((hot.more hbW.size).up hbq) (up_trans hbw hbq)
end Go.Proofs.Ytljbcfgecbonnaa
