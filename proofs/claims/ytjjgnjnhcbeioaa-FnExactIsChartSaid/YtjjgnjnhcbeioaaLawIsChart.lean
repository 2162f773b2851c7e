/-
  FnExactIsChart: for all arguments the law returns true, and its arguments read afterwards as before. No condition.
-/
import Derived.Test.YtjjgnjnhcbeioaaRows
import Derived.Test.YtjjgnjnhcbeioaaBase
import Derived.Test.YtjjgnjnhcbeioaaSpot
import Derived.Test.YtjjgnjnhcbeioaaSlice
import Derived.Test.YtjjgnjnhcbeioaaOpen
import Derived.Test.YtjjgnjnhcbeioaaLawS
import Derived.Test.YtjjgnjnhcbeioaaChart
namespace Go.Proofs.Ytjjgnjnhcbeioaa
open Go.RowKit Go.ChangeShapes Go.WideShapes Go.Sort

set_option maxHeartbeats 1000000 in
theorem sIsChart_any (v : Value) (n : Nat) (X Y : Nat → Int) (hn : n ≤ 9223372036854775807) (w : World) (h : Spots w v n X Y) :
    Calls Try.prog 10 #[v] w (Ans w (.bool (chartB n X Y))) := by
  have H := Lib.hid (chGood_any v n X Y hn w h)
  clear h
  go_enter Try.func10, Try.ntmps10
  go_wp2_with ((go_at_call 32; refine (H.out).mono ?_; rintro e w1 ⟨rfl, hb⟩))
  go_ret
  exact Ans.bool rfl (by (repeat (first | with_reducible exact Below.refl _ _ | with_reducible assumption | with_reducible refine up_alloc ?_ _ | with_reducible refine up_drew ?_ | with_reducible refine up_drewN ?_ _ | (with_reducible refine up_set ?_ ?hset _; case hset => first | (simp; done) | (simp; omega) | omega) | with_reducible refine up_trans ?_ (by with_reducible assumption))))
set_option maxHeartbeats 1000000 in
theorem fnExactIsChart_walk (v : Value) (n : Nat) (X Y : Nat → Int) (hn : n ≤ 9223372036854775807) (w : World) (h : Spots w v n X Y) :
    Calls Try.prog 3 #[v] w (Ans w (.bool true)) := by
  have HZ := Lib.hid (szSpotS_any v n X Y 1048576 (by omega) (by omega) hn w h)
  by_cases hl : n ≤ 1048576
  · rw [show szV 1048576 n = 1048576 - n by unfold szV; rw [if_pos (by omega)]] at HZ
    have HT := Lib.hid (fun w' (hw : Spots w' v n X Y) => toSpotS_any v n X Y hl w' hw)
    have HE := Lib.hid (fun v v' w' (a : Spots w' v n X Y) (b : Spots w' v' n X Y) => eqSpotS_same v v' n X Y hl w' a b)
    have HI := Lib.hid (fun v w' (hw : Spots w' v n X Y) => isChart_any v n X Y hn w' hw)
    have HS := Lib.hid (fun v w' (hw : Spots w' v n X Y) => sIsChart_any v n X Y hn w' hw)
    obtain ⟨q, hq⟩ : ∃ q, q = chartB n X Y := ⟨_, rfl⟩
    rw [← hq] at HI HS
    clear hq
    go_enter Try.func3, Try.ntmps3
    go_wp2_with (first
      | (go_at_call 9; refine (HZ.out).mono ?_; rintro e w1 ⟨rfl, hb⟩)
      | (go_at_call 11; refine (HT.out _ (by first | exact Spots.up (by with_reducible assumption) (by (repeat (first | with_reducible exact Below.refl _ _ | with_reducible assumption | with_reducible refine up_alloc ?_ _ | with_reducible refine up_drew ?_ | with_reducible refine up_drewN ?_ _ | (with_reducible refine up_set ?_ ?hset _; case hset => first | (simp; done) | (simp; omega) | omega) | with_reducible refine up_trans ?_ (by with_reducible assumption)))) | exact OwnS.spots (OwnS.up (by with_reducible assumption) (by (repeat (first | with_reducible exact Below.refl _ _ | with_reducible assumption | with_reducible refine up_alloc ?_ _ | with_reducible refine up_drew ?_ | with_reducible refine up_drewN ?_ _ | (with_reducible refine up_set ?_ ?hset _; case hset => first | (simp; done) | (simp; omega) | omega) | with_reducible refine up_trans ?_ (by with_reducible assumption))))))).mono ?_; rintro e w1 ⟨v1, rfl, ho, hb⟩)
      | (go_at_call 10; refine (HS.out _ _ (by first | exact Spots.up (by with_reducible assumption) (by (repeat (first | with_reducible exact Below.refl _ _ | with_reducible assumption | with_reducible refine up_alloc ?_ _ | with_reducible refine up_drew ?_ | with_reducible refine up_drewN ?_ _ | (with_reducible refine up_set ?_ ?hset _; case hset => first | (simp; done) | (simp; omega) | omega) | with_reducible refine up_trans ?_ (by with_reducible assumption)))) | exact OwnS.spots (OwnS.up (by with_reducible assumption) (by (repeat (first | with_reducible exact Below.refl _ _ | with_reducible assumption | with_reducible refine up_alloc ?_ _ | with_reducible refine up_drew ?_ | with_reducible refine up_drewN ?_ _ | (with_reducible refine up_set ?_ ?hset _; case hset => first | (simp; done) | (simp; omega) | omega) | with_reducible refine up_trans ?_ (by with_reducible assumption))))))).mono ?_; rintro e w1 ⟨rfl, hb⟩)
      | (go_at_call 12; refine (HI.out _ _ (by first | exact Spots.up (by with_reducible assumption) (by (repeat (first | with_reducible exact Below.refl _ _ | with_reducible assumption | with_reducible refine up_alloc ?_ _ | with_reducible refine up_drew ?_ | with_reducible refine up_drewN ?_ _ | (with_reducible refine up_set ?_ ?hset _; case hset => first | (simp; done) | (simp; omega) | omega) | with_reducible refine up_trans ?_ (by with_reducible assumption)))) | exact OwnS.spots (OwnS.up (by with_reducible assumption) (by (repeat (first | with_reducible exact Below.refl _ _ | with_reducible assumption | with_reducible refine up_alloc ?_ _ | with_reducible refine up_drew ?_ | with_reducible refine up_drewN ?_ _ | (with_reducible refine up_set ?_ ?hset _; case hset => first | (simp; done) | (simp; omega) | omega) | with_reducible refine up_trans ?_ (by with_reducible assumption))))))).mono ?_; rintro e w1 ⟨rfl, hb⟩)
      | (go_at_call 13; refine (HE.out _ _ _ (by first | exact Spots.up (by with_reducible assumption) (by (repeat (first | with_reducible exact Below.refl _ _ | with_reducible assumption | with_reducible refine up_alloc ?_ _ | with_reducible refine up_drew ?_ | with_reducible refine up_drewN ?_ _ | (with_reducible refine up_set ?_ ?hset _; case hset => first | (simp; done) | (simp; omega) | omega) | with_reducible refine up_trans ?_ (by with_reducible assumption)))) | exact OwnS.spots (OwnS.up (by with_reducible assumption) (by (repeat (first | with_reducible exact Below.refl _ _ | with_reducible assumption | with_reducible refine up_alloc ?_ _ | with_reducible refine up_drew ?_ | with_reducible refine up_drewN ?_ _ | (with_reducible refine up_set ?_ ?hset _; case hset => first | (simp; done) | (simp; omega) | omega) | with_reducible refine up_trans ?_ (by with_reducible assumption)))))) (by first | exact Spots.up (by with_reducible assumption) (by (repeat (first | with_reducible exact Below.refl _ _ | with_reducible assumption | with_reducible refine up_alloc ?_ _ | with_reducible refine up_drew ?_ | with_reducible refine up_drewN ?_ _ | (with_reducible refine up_set ?_ ?hset _; case hset => first | (simp; done) | (simp; omega) | omega) | with_reducible refine up_trans ?_ (by with_reducible assumption)))) | exact OwnS.spots (OwnS.up (by with_reducible assumption) (by (repeat (first | with_reducible exact Below.refl _ _ | with_reducible assumption | with_reducible refine up_alloc ?_ _ | with_reducible refine up_drew ?_ | with_reducible refine up_drewN ?_ _ | (with_reducible refine up_set ?_ ?hset _; case hset => first | (simp; done) | (simp; omega) | omega) | with_reducible refine up_trans ?_ (by with_reducible assumption))))))).mono ?_; rintro e w1 ⟨rfl, hb⟩))
    all_goals
      go_ret
      exact Ans.bool rfl (by (repeat (first | with_reducible exact Below.refl _ _ | with_reducible assumption | with_reducible refine up_alloc ?_ _ | with_reducible refine up_drew ?_ | with_reducible refine up_drewN ?_ _ | (with_reducible refine up_set ?_ ?hset _; case hset => first | (simp; done) | (simp; omega) | omega) | with_reducible refine up_trans ?_ (by with_reducible assumption))))
  · rw [show szV 1048576 n = -1 by unfold szV; rw [if_neg (by omega)]] at HZ
    go_enter Try.func3, Try.ntmps3
    go_wp2_with ((go_at_call 9; refine (HZ.out).mono ?_; rintro e w1 ⟨rfl, hb⟩))
    go_ret
    exact Ans.bool rfl (by (repeat (first | with_reducible exact Below.refl _ _ | with_reducible assumption | with_reducible refine up_alloc ?_ _ | with_reducible refine up_drew ?_ | with_reducible refine up_drewN ?_ _ | (with_reducible refine up_set ?_ ?hset _; case hset => first | (simp; done) | (simp; omega) | omega) | with_reducible refine up_trans ?_ (by with_reducible assumption))))

theorem fnExactIsChart_law : LawWalk Try.prog 3 Try.f3 := by
  intro H enc W base args ds ps hval hA
  rw [Try.params3] at hval hA
  obtain ⟨v0, d0, rfl, rfl, h0⟩ := trodAll_one hA
  obtain ⟨n, X, Y, hs, hn⟩ := open_spots (hval 0 _ v0 rfl rfl) h0
  exact fnExactIsChart_walk v0 n X Y hn W hs

set_option maxRecDepth 100000 in
theorem fnExactIsChart_holds : Rows.FnExactIsChartSaid :=
  OpenClaim.holds_of_wide 3 Try.f3 rfl rfl rfl rfl rfl rfl rfl ⟨rfl, rfl, rfl, rfl, rfl⟩ rfl rfl rfl rfl rfl (by kernel_rfl) Try.func3 (by kernel_rfl)
    (of_decide_eq_true (by kernel_rfl)) (by unfold Func.isWrapper; first | (rw [if_pos (by decide +kernel)]; kernel_rfl) | (rw [if_neg (by decide +kernel)]; exact ⟨rfl, rfl⟩))
    (fun os started H enc _ => lifted_of (C := Try.checked) (s := Rows.fnExactIsChartSpec) (tb := 4) (by kernel_rfl) (by kernel_rfl) (by kernel_rfl) (by kernel_rfl) Try.func3 rfl Try.underlying4 rfl
      (fun H ds h => by
        have h2 : ds.length = 1 := by rw [Try.params3] at h; exact h
        match ds, h2 with
        | [_], _ => rfl)
      fnExactIsChart_law os started H enc
      (ChangeSpec.witness6 (enc := enc) (C := Try.checked) false ⟨#[], #[.slice none 0 0], []⟩ 8 (by kernel_rfl) (by kernel_rfl) (by kernel_rfl) (by kernel_rfl)))

#print axioms fnExactIsChart_holds
end Go.Proofs.Ytjjgnjnhcbeioaa
