/-
  What the functions on single moves and on pairs of moves hand back.
-/
import Derived.Test.YtjjgnjnhcbeioaaRows
import Derived.Test.YtjjgnjnhcbeioaaBase
import Derived.Test.YtjjgnjnhcbeioaaSpot
namespace Go.Proofs.Ytjjgnjnhcbeioaa
open Go.RowKit

def moveB (x y u v c : Int) : Bool := (spotB x y && spotB u v) && inB c 1 64
theorem moveB_iff {x y u v c : Int} : moveB x y u v c = true ↔ (spotB x y = true ∧ spotB u v = true) ∧ 1 ≤ c ∧ c ≤ 64 := by simp [moveB, inB_iff]
set_option maxHeartbeats 400000 in
theorem isMove_any (x y u v c : Int) (w : World) :
    Calls Try.prog 58 #[.agg #[.int .i64 x, .int .i64 y, .int .i64 u, .int .i64 v, .int .i64 c]] w (Ans w (.bool (moveB x y u v c))) := by
  have H := Lib.hid (show moveB x y u v c = ((spotB x y && spotB u v) && inB c 1 64) from rfl)
  go_enter Try.func58, Try.ntmps58
  go_wp2_with (first
    | (go_at_call 35; refine (from0 (isSpot_any _ _ _) (by first | exact hb0 | exact up_alloc hb0 _ | exact up_drew hb0 | exact up_drewN hb0 _ | exact Below.refl _ _)).mono ?_; rintro e w1 ⟨rfl, hb0⟩; obtain ⟨hc0, hf0⟩ := bcell hb0)
    | (go_at_call 34; refine (within_any _ _ _ _).mono ?_; rintro e w1 ⟨rfl, rfl⟩))
  all_goals
    go_ret
    exact Ans.bool (by rw [H.out]; simp [*]) (by (repeat (first | exact Below.refl _ _ | exact below_alloc _ _ | assumption | refine up_alloc ?_ _ | refine up_drew ?_ | refine up_drewN ?_ _ | refine up_trans ?_ (by assumption))))
set_option maxHeartbeats 400000 in
theorem mvGood_any (x y u v c : Int) (w : World) :
    Calls Try.prog 54 #[.agg #[.int .i64 x, .int .i64 y, .int .i64 u, .int .i64 v, .int .i64 c]] w (Ans w (.bool (moveB x y u v c))) := by
  have H := Lib.hid (show moveB x y u v c = ((spotB x y && spotB u v) && inB c 1 64) from rfl)
  go_enter Try.func54, Try.ntmps54
  go_wp2_with (first
    | (go_at_call 50; refine (from0 (stGood_any _ _ _) (by first | exact hb0 | exact up_alloc hb0 _ | exact up_drew hb0 | exact up_drewN hb0 _ | exact Below.refl _ _)).mono ?_; rintro e w1 ⟨rfl, hb0⟩; obtain ⟨hc0, hf0⟩ := bcell hb0)
    | (go_at_call 51; refine (l1In_any _ _ _ _).mono ?_; rintro e w1 ⟨rfl, rfl⟩))
  all_goals
    go_ret
    exact Ans.bool (by rw [H.out]; simp [*]) (by (repeat (first | exact Below.refl _ _ | exact below_alloc _ _ | assumption | refine up_alloc ?_ _ | refine up_drew ?_ | refine up_drewN ?_ _ | refine up_trans ?_ (by assumption))))
def togB (x y u v c x' y' u' v' c' : Int) : Bool := (moveB x y u v c && moveB x' y' u' v' c') && (c == c')
theorem togB_iff {x y u v c x' y' u' v' c' : Int} : togB x y u v c x' y' u' v' c' = true ↔ (moveB x y u v c = true ∧ moveB x' y' u' v' c' = true) ∧ c = c' := by simp [togB]
set_option maxHeartbeats 400000 in
theorem goTogether_any (x y u v c x' y' u' v' c' : Int) (w : World) :
    Calls Try.prog 42 #[.agg #[.int .i64 x, .int .i64 y, .int .i64 u, .int .i64 v, .int .i64 c], .agg #[.int .i64 x', .int .i64 y', .int .i64 u', .int .i64 v', .int .i64 c']] w (Ans w (.bool (togB x y u v c x' y' u' v' c'))) := by
  have H := Lib.hid (show togB x y u v c x' y' u' v' c' = ((moveB x y u v c && moveB x' y' u' v' c') && (c == c')) from rfl)
  go_enter Try.func42, Try.ntmps42
  go_wp2_with (first
    | (go_at_call 58; refine (from0 (isMove_any _ _ _ _ _ _) (by first | exact hb0 | exact up_alloc hb0 _ | exact up_drew hb0 | exact up_drewN hb0 _ | exact Below.refl _ _)).mono ?_; rintro e w1 ⟨rfl, hb0⟩; obtain ⟨hc0, hf0⟩ := bcell hb0))
  all_goals
    go_ret
    exact Ans.bool (by rw [H.out]; simp [*]) (by (repeat (first | exact Below.refl _ _ | exact below_alloc _ _ | assumption | refine up_alloc ?_ _ | refine up_drew ?_ | refine up_drewN ?_ _ | refine up_trans ?_ (by assumption))))
set_option maxHeartbeats 400000 in
theorem apGood_any (x y u v c x' y' u' v' c' : Int) (w : World) :
    Calls Try.prog 40 #[.agg #[.int .i64 x, .int .i64 y, .int .i64 u, .int .i64 v, .int .i64 c], .agg #[.int .i64 x', .int .i64 y', .int .i64 u', .int .i64 v', .int .i64 c']] w (Ans w (.bool (togB x y u v c x' y' u' v' c'))) := by
  have H := Lib.hid (show togB x y u v c x' y' u' v' c' = ((moveB x y u v c && moveB x' y' u' v' c') && (c == c')) from rfl)
  go_enter Try.func40, Try.ntmps40
  go_wp2_with (first
    | (go_at_call 54; refine (from0 (mvGood_any _ _ _ _ _ _) (by first | exact hb0 | exact up_alloc hb0 _ | exact up_drew hb0 | exact up_drewN hb0 _ | exact Below.refl _ _)).mono ?_; rintro e w1 ⟨rfl, hb0⟩; obtain ⟨hc0, hf0⟩ := bcell hb0))
  all_goals
    go_ret
    exact Ans.bool (by rw [H.out]; simp [*]) (by (repeat (first | exact Below.refl _ _ | exact below_alloc _ _ | assumption | refine up_alloc ?_ _ | refine up_drew ?_ | refine up_drewN ?_ _ | refine up_trans ?_ (by assumption))))
set_option maxHeartbeats 400000 in
theorem toMove_any (x y u v c : Int) (w : World) :
    Calls Try.prog 20 #[.agg #[.int .i64 x, .int .i64 y, .int .i64 u, .int .i64 v, .int .i64 c]] w (Ans w (.agg #[.int .i64 x, .int .i64 y, .int .i64 u, .int .i64 v, .int .i64 c])) := by
  go_enter Try.func20, Try.ntmps20
  go_wp2_with (first
    | (go_at_call 33; refine (toSpot_at _ _ _).mono ?_; rintro e w1 ⟨rfl, rfl⟩))
  refine bodyPost_ret (v := .agg #[.int .i64 x, .int .i64 y, .int .i64 u, .int .i64 v, .int .i64 c]) (by simp [results, Try.results20, go_sem]) rfl ?_
  exact ⟨rfl, by (repeat (first | exact Below.refl _ _ | exact below_alloc _ _ | assumption | refine up_alloc ?_ _ | refine up_drew ?_ | refine up_drewN ?_ _ | refine up_trans ?_ (by assumption)))⟩
end Go.Proofs.Ytjjgnjnhcbeioaa
