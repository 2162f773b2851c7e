/-
  LineOf, the reference's side.
-/
import Derived.Test.YtljbcfgecbonnaaRows
import Derived.Test.YtljbcfgecbonnaaBase
import Derived.Test.YtljbcfgecbonnaaSpot
import Derived.Test.YtljbcfgecbonnaaSlice
import Derived.Test.YtljbcfgecbonnaaChart
import Derived.Test.YtljbcfgecbonnaaRound
import Derived.Test.YtljbcfgecbonnaaAppend
import Derived.Test.YtljbcfgecbonnaaAppendE
import Derived.Test.YtljbcfgecbonnaaForm
import Derived.Test.YtljbcfgecbonnaaLine
import Derived.Test.YtljbcfgecbonnaaBlock
import Derived.Deep.RegionHeld3
import Derived.Deep.AppendLies
namespace Go.Proofs.Ytljbcfgecbonnaa
open Go.RowKit Go.Sort Go.ChangeShapes Go.WideShapes

set_option maxHeartbeats 400000 in
theorem stTwo_any (x y u v : Int) (w : World) :
    Calls Try.prog 114 #[.agg #[.int .i64 x, .int .i64 y], .agg #[.int .i64 u, .int .i64 v]] w (Ans w (.bool (spotB x y && spotB u v))) := by
  go_enter Try.func114, Try.ntmps114
  go_wp2_with (first | (go_at_call 118; refine (from0 (stGood_any _ _ _) (by first | exact hb0 | exact up_alloc hb0 _ | exact up_drew hb0 | exact up_drewN hb0 _ | exact Below.refl _ _)).mono ?_; rintro e w1 ⟨rfl, hb0⟩; obtain ⟨hc0, hf0⟩ := bcell hb0))
  all_goals
    go_ret
    exact Ans.bool (by simp [*]) (by (repeat (first | with_reducible exact Below.refl _ _ | with_reducible assumption | with_reducible refine up_alloc ?_ _ | with_reducible refine up_drew ?_ | with_reducible refine up_drewN ?_ _ | (with_reducible refine up_set ?_ ?hset _; case hset => first | (simp; done) | (simp; omega) | omega) | with_reducible refine up_trans ?_ (by with_reducible assumption))))
set_option maxRecDepth 100000 in
set_option maxHeartbeats 2000000 in
theorem sLine_any (x y u v count : Int) (w : World) :
    Calls Try.prog 42 #[.agg #[.int .i64 x, .int .i64 y], .agg #[.int .i64 u, .int .i64 v], .int .i64 count] w
      (AnsSB w (sel (lnB x y u v count) count.toNat) (lnX x u (lnC count)) (lnX y v (lnC count)) (lnB x y u v count)) := by
  have HT := Lib.hid (stTwo_any x y u v)
  cases hv1 : (spotB x y && spotB u v) with
  | false =>
    rw [show lnB x y u v count = false by simp [lnB, lnOk, hv1]]
    rw [hv1] at HT
    go_enter Try.func42, Try.ntmps42
    go_wp2_with (first | (go_at_call 114; refine (HT.out _).mono ?_; rintro e wq ⟨rfl, hbq⟩) | (go_at_call 115; refine (fmCount_any _ _).mono ?_; rintro e w1 ⟨rfl, rfl⟩))
    go_ret2
    exact AnsSB.nil (by (repeat (first | with_reducible exact Below.refl _ _ | with_reducible assumption | with_reducible refine up_alloc ?_ _ | with_reducible refine up_drew ?_ | with_reducible refine up_drewN ?_ _ | (with_reducible refine up_set ?_ ?hset _; case hset => first | (simp; done) | (simp; omega) | omega) | with_reducible refine up_trans ?_ (by with_reducible assumption))))
  | true =>
    rw [hv1] at HT
    cases hv2 : inB count 1 12 with
    | false =>
      rw [show lnB x y u v count = false by simp [lnB, lnOk, hv2]]
      go_enter Try.func42, Try.ntmps42
      go_wp2_with (first | (go_at_call 114; refine (HT.out _).mono ?_; rintro e wq ⟨rfl, hbq⟩) | (go_at_call 115; refine (fmCount_any _ _).mono ?_; rintro e w1 ⟨rfl, rfl⟩))
      go_ret2
      exact AnsSB.nil (by (repeat (first | with_reducible exact Below.refl _ _ | with_reducible assumption | with_reducible refine up_alloc ?_ _ | with_reducible refine up_drew ?_ | with_reducible refine up_drewN ?_ _ | (with_reducible refine up_set ?_ ?hset _; case hset => first | (simp; done) | (simp; omega) | omega) | with_reducible refine up_trans ?_ (by with_reducible assumption))))
    | true =>
      rw [show lnB x y u v count = chartB count.toNat (lnX x u (lnC count)) (lnX y v (lnC count)) by simp [lnB, lnOk, hv1, hv2]]
      simp only [Bool.and_eq_true] at hv1
      obtain ⟨v1, v2⟩ := hv1
      have V1 := Lib.hid v1
      have V2 := Lib.hid v2
      obtain ⟨b1, b2⟩ := inB_iff.1 hv2
      obtain ⟨C, rfl⟩ : ∃ C : Nat, count = C := ⟨count.toNat, by omega⟩
      rw [show ((C : Int)).toNat = C by omega]
      have HC := Lib.hid (show lnC (C : Int) = max 1 ((C : Int) - 1) from rfl)
      have hm : 0 < max 1 ((C : Int) - 1) ∧ max 1 ((C : Int) - 1) ≤ 1000 := by omega
      obtain ⟨hm1, hm2⟩ := hm
      clear v1 v2
      go_enter Try.func42, Try.ntmps42
      go_wp2_with fail
      generalize hW : World.alloc _ _ = W at *
      have hbW : Below w.heap.size w W := by subst hW; (repeat (first | with_reducible exact Below.refl _ _ | with_reducible assumption | with_reducible refine up_alloc ?_ _ | with_reducible refine up_drew ?_ | with_reducible refine up_drewN ?_ _ | (with_reducible refine up_set ?_ ?hset _; case hset => first | (simp; done) | (simp; omega) | omega) | with_reducible refine up_trans ?_ (by with_reducible assumption)))
      have k0 : W.cell? ⟨w.heap.size, 0, none⟩ = some (.int .i64 x) := by subst hW; simp [go_sem]
      have k1 : W.cell? ⟨w.heap.size, 1, none⟩ = some (.int .i64 y) := by subst hW; simp [go_sem]
      have k2 : W.cell? ⟨w.heap.size + 1, 0, none⟩ = some (.int .i64 u) := by subst hW; simp [go_sem]
      have k3 : W.cell? ⟨w.heap.size + 1, 1, none⟩ = some (.int .i64 v) := by subst hW; simp [go_sem]
      clear hW
      go_wp2_with (first | (go_at_call 114; refine (HT.out _).mono ?_; rintro e wq ⟨rfl, hbq⟩) | (go_at_call 115; refine (fmCount_any _ _).mono ?_; rintro e w1 ⟨rfl, rfl⟩))
      go_loopw [8, 9] (fun p i wr => ∃ k : Nat, k ≤ C ∧ i = .int .i64 k ∧ OwnR W.heap.size wr p k (lnX x u (lnC C)) (lnX y v (lnC C)) ∧ Below W.heap.size W wr) (fun _ i _ => C - (intOf i).toNat)
      case atStart => exact ⟨0, by omega, rfl, OwnR.nil _ _ _ _, by (repeat (first | with_reducible exact Below.refl _ _ | with_reducible assumption | with_reducible refine up_alloc ?_ _ | with_reducible refine up_drew ?_ | with_reducible refine up_drewN ?_ _ | (with_reducible refine up_set ?_ ?hset _; case hset => first | (simp; done) | (simp; omega) | omega) | with_reducible refine up_trans ?_ (by with_reducible assumption)))⟩
      case round =>
        clear hbq
        obtain ⟨k, hk, rfl, how, hb⟩ := hrel
        by_cases hlt : k < C
        · have q0 := up_keep hb k0
          have q1 := up_keep hb k1
          have q2 := up_keep hb k2
          have q3 := up_keep hb k3
          have HX := Lib.hid (show lnX x u (lnC C) k = along x u k (max 1 ((C : Int) - 1)) by unfold lnX; rw [HC.out])
          have HY := Lib.hid (show lnX y v (lnC C) k = along y v k (max 1 ((C : Int) - 1)) by unfold lnX; rw [HC.out])
          go_wp2_with fail
          have hz0 : IntKind.i64.wrap ((C : Int) - 1) = (C : Int) - 1 := IntWalk.i64_in _ (by omega)
          go_region_held3 (fun w' => w'.cell? ⟨w.heap.size, 0, none⟩ = some (.int .i64 x) ∧ w'.cell? ⟨w.heap.size, 1, none⟩ = some (.int .i64 y) ∧ w'.cell? ⟨w.heap.size + 1, 0, none⟩ = some (.int .i64 u) ∧ w'.cell? ⟨w.heap.size + 1, 1, none⟩ = some (.int .i64 v))
            (first | exact ⟨by assumption, by assumption, by assumption, by assumption⟩ | go_keep) (first
              | (go_at_call 94; refine (l1Most_any _ _ _).mono ?_; rintro e w1 ⟨rfl, rfl⟩)
              | (go_at_call 116; refine (fmBetween_any _ _ _ _ _ _ V1.out V2.out (by omega) (by omega) (by omega) (by omega) _).mono ?_; rintro e wq ⟨rfl, hbq⟩; have s0 := up_keep (show Below wr.heap.size wr wq from (by (repeat (first | with_reducible exact Below.refl _ _ | with_reducible assumption | with_reducible refine up_alloc ?_ _ | with_reducible refine up_drew ?_ | with_reducible refine up_drewN ?_ _ | (with_reducible refine up_set ?_ ?hset _; case hset => first | (simp; done) | (simp; omega) | omega) | with_reducible refine up_trans ?_ (by with_reducible assumption))))) q0; have s1 := up_keep (show Below wr.heap.size wr wq from (by (repeat (first | with_reducible exact Below.refl _ _ | with_reducible assumption | with_reducible refine up_alloc ?_ _ | with_reducible refine up_drew ?_ | with_reducible refine up_drewN ?_ _ | (with_reducible refine up_set ?_ ?hset _; case hset => first | (simp; done) | (simp; omega) | omega) | with_reducible refine up_trans ?_ (by with_reducible assumption))))) q1; have s2 := up_keep (show Below wr.heap.size wr wq from (by (repeat (first | with_reducible exact Below.refl _ _ | with_reducible assumption | with_reducible refine up_alloc ?_ _ | with_reducible refine up_drew ?_ | with_reducible refine up_drewN ?_ _ | (with_reducible refine up_set ?_ ?hset _; case hset => first | (simp; done) | (simp; omega) | omega) | with_reducible refine up_trans ?_ (by with_reducible assumption))))) q2; have s3 := up_keep (show Below wr.heap.size wr wq from (by (repeat (first | with_reducible exact Below.refl _ _ | with_reducible assumption | with_reducible refine up_alloc ?_ _ | with_reducible refine up_drew ?_ | with_reducible refine up_drewN ?_ _ | (with_reducible refine up_set ?_ ?hset _; case hset => first | (simp; done) | (simp; omega) | omega) | with_reducible refine up_trans ?_ (by with_reducible assumption))))) q3)
              | (refine step_app_spot rfl (.tmp 24) (.tmp 32) rfl W.heap.size _ k (lnX x u (lnC C)) (lnX y v (lnC C)) rfl rfl HX.out HY.out (by simp [go_sem]) (by simp [go_sem]) (OwnR.up how (by (repeat (first | with_reducible exact Below.refl _ _ | with_reducible assumption | with_reducible refine up_alloc ?_ _ | with_reducible refine up_drew ?_ | with_reducible refine up_drewN ?_ _ | (with_reducible refine up_set ?_ ?hset _; case hset => first | (simp; done) | (simp; omega) | omega) | with_reducible refine up_trans ?_ (by with_reducible assumption))))) (show Below W.heap.size W _ from (by (repeat (first | with_reducible exact Below.refl _ _ | with_reducible assumption | with_reducible refine up_alloc ?_ _ | with_reducible refine up_drew ?_ | with_reducible refine up_drewN ?_ _ | (with_reducible refine up_set ?_ ?hset _; case hset => first | (simp; done) | (simp; omega) | omega) | with_reducible refine up_trans ?_ (by with_reducible assumption))))).size (by omega) ?_; intro v2 w2 ho2 hb2; replace hb2 := (show Below W.heap.size W _ from (by (repeat (first | with_reducible exact Below.refl _ _ | with_reducible assumption | with_reducible refine up_alloc ?_ _ | with_reducible refine up_drew ?_ | with_reducible refine up_drewN ?_ _ | (with_reducible refine up_set ?_ ?hset _; case hset => first | (simp; done) | (simp; omega) | omega) | with_reducible refine up_trans ?_ (by with_reducible assumption))))).trans hb2; have s0 := up_keep hb2 k0; have s1 := up_keep hb2 k1; have s2 := up_keep hb2 k2; have s3 := up_keep hb2 k3))
          clear hz0 s0 s1 s2 s3
          go_wp2_with fail
          go_roundw
          case rel => exact ⟨k + 1, by omega, by go_num, ho2, hb2⟩
          case measure => simp [intOf]; omega
        · have e : k = C := by omega
          subst e
          have hbw := hbW.trans (hb.mono hbW.size)
          go_wp2_with (go_at_call 87; refine (chIf_g _ _ _ _ _ how.ownS.spots (by omega)).mono ?_; rintro e wq ⟨rfl, hbq⟩)
          go_ret2
          exact AnsSB.sel ((how.ownS.more hbW.size).up hbq) (up_trans hbw hbq)
end Go.Proofs.Ytljbcfgecbonnaa
