/-
  What the functions on single moves and on pairs of moves hand back.
-/
import Derived.Test.YtljdhicmcmppgaaRows
import Derived.Test.YtljdhicmcmppgaaBase
import Derived.Test.YtljdhicmcmppgaaSpot
namespace Go.Proofs.Ytljdhicmcmppgaa
open Go.RowKit

def moveB (x y u v c : Int) : Bool := (spotB x y && spotB u v) && inB c 1 64
theorem moveB_iff {x y u v c : Int} : moveB x y u v c = true ↔ (spotB x y = true ∧ spotB u v = true) ∧ 1 ≤ c ∧ c ≤ 64 := by simp [moveB, inB_iff]
set_option maxHeartbeats 400000 in
theorem isMove_any (x y u v c : Int) (w : World) :
    Calls Try.prog 66 #[.agg #[.int .i64 x, .int .i64 y, .int .i64 u, .int .i64 v, .int .i64 c]] w (Ans w (.bool (moveB x y u v c))) := by
  have H := Lib.hid (show moveB x y u v c = ((spotB x y && spotB u v) && inB c 1 64) from rfl)
  go_enter Try.func66, Try.ntmps66
  go_wp2_with (first
    | (go_at_call 78; refine (from0 (isSpot_any _ _ _) (by first | exact hb0 | exact up_alloc hb0 _ | exact up_drew hb0 | exact up_drewN hb0 _ | exact Below.refl _ _)).mono ?_; rintro e w1 ⟨rfl, hb0⟩; obtain ⟨hc0, hf0⟩ := bcell hb0)
    | (go_at_call 44; refine (within_any _ _ _ _).mono ?_; rintro e w1 ⟨rfl, rfl⟩))
  all_goals
    go_ret
    exact Ans.bool (by rw [H.out]; simp [*]) (by (repeat (first | with_reducible exact Below.refl _ _ | with_reducible assumption | with_reducible refine up_alloc ?_ _ | with_reducible refine up_drew ?_ | with_reducible refine up_drewN ?_ _ | (with_reducible refine up_set ?_ ?hset _; case hset => first | (simp; done) | (simp; omega) | omega) | with_reducible refine up_trans ?_ (by with_reducible assumption))))
set_option maxHeartbeats 400000 in
theorem mvGood_any (x y u v c : Int) (w : World) :
    Calls Try.prog 68 #[.agg #[.int .i64 x, .int .i64 y, .int .i64 u, .int .i64 v, .int .i64 c]] w (Ans w (.bool (moveB x y u v c))) := by
  have H := Lib.hid (show moveB x y u v c = ((spotB x y && spotB u v) && inB c 1 64) from rfl)
  go_enter Try.func68, Try.ntmps68
  go_wp2_with (first
    | (go_at_call 79; refine (from0 (stGood_any _ _ _) (by first | exact hb0 | exact up_alloc hb0 _ | exact up_drew hb0 | exact up_drewN hb0 _ | exact Below.refl _ _)).mono ?_; rintro e w1 ⟨rfl, hb0⟩; obtain ⟨hc0, hf0⟩ := bcell hb0)
    | (go_at_call 52; refine (l1In_any _ _ _ _).mono ?_; rintro e w1 ⟨rfl, rfl⟩))
  all_goals
    go_ret
    exact Ans.bool (by rw [H.out]; simp [*]) (by (repeat (first | with_reducible exact Below.refl _ _ | with_reducible assumption | with_reducible refine up_alloc ?_ _ | with_reducible refine up_drew ?_ | with_reducible refine up_drewN ?_ _ | (with_reducible refine up_set ?_ ?hset _; case hset => first | (simp; done) | (simp; omega) | omega) | with_reducible refine up_trans ?_ (by with_reducible assumption))))
def togB (x y u v c x' y' u' v' c' : Int) : Bool := (moveB x y u v c && moveB x' y' u' v' c') && (c == c')
theorem togB_iff {x y u v c x' y' u' v' c' : Int} : togB x y u v c x' y' u' v' c' = true ↔ (moveB x y u v c = true ∧ moveB x' y' u' v' c' = true) ∧ c = c' := by simp [togB]
set_option maxHeartbeats 400000 in
theorem goTogether_any (x y u v c x' y' u' v' c' : Int) (w : World) :
    Calls Try.prog 34 #[.agg #[.int .i64 x, .int .i64 y, .int .i64 u, .int .i64 v, .int .i64 c], .agg #[.int .i64 x', .int .i64 y', .int .i64 u', .int .i64 v', .int .i64 c']] w (Ans w (.bool (togB x y u v c x' y' u' v' c'))) := by
  have H := Lib.hid (show togB x y u v c x' y' u' v' c' = ((moveB x y u v c && moveB x' y' u' v' c') && (c == c')) from rfl)
  go_enter Try.func34, Try.ntmps34
  go_wp2_with (first
    | (go_at_call 66; refine (from0 (isMove_any _ _ _ _ _ _) (by first | exact hb0 | exact up_alloc hb0 _ | exact up_drew hb0 | exact up_drewN hb0 _ | exact Below.refl _ _)).mono ?_; rintro e w1 ⟨rfl, hb0⟩; obtain ⟨hc0, hf0⟩ := bcell hb0))
  all_goals
    go_ret
    exact Ans.bool (by rw [H.out]; simp [*]) (by (repeat (first | with_reducible exact Below.refl _ _ | with_reducible assumption | with_reducible refine up_alloc ?_ _ | with_reducible refine up_drew ?_ | with_reducible refine up_drewN ?_ _ | (with_reducible refine up_set ?_ ?hset _; case hset => first | (simp; done) | (simp; omega) | omega) | with_reducible refine up_trans ?_ (by with_reducible assumption))))
set_option maxHeartbeats 400000 in
theorem apGood_any (x y u v c x' y' u' v' c' : Int) (w : World) :
    Calls Try.prog 36 #[.agg #[.int .i64 x, .int .i64 y, .int .i64 u, .int .i64 v, .int .i64 c], .agg #[.int .i64 x', .int .i64 y', .int .i64 u', .int .i64 v', .int .i64 c']] w (Ans w (.bool (togB x y u v c x' y' u' v' c'))) := by
  have H := Lib.hid (show togB x y u v c x' y' u' v' c' = ((moveB x y u v c && moveB x' y' u' v' c') && (c == c')) from rfl)
  go_enter Try.func36, Try.ntmps36
  go_wp2_with (first
    | (go_at_call 68; refine (from0 (mvGood_any _ _ _ _ _ _) (by first | exact hb0 | exact up_alloc hb0 _ | exact up_drew hb0 | exact up_drewN hb0 _ | exact Below.refl _ _)).mono ?_; rintro e w1 ⟨rfl, hb0⟩; obtain ⟨hc0, hf0⟩ := bcell hb0))
  all_goals
    go_ret
    exact Ans.bool (by rw [H.out]; simp [*]) (by (repeat (first | with_reducible exact Below.refl _ _ | with_reducible assumption | with_reducible refine up_alloc ?_ _ | with_reducible refine up_drew ?_ | with_reducible refine up_drewN ?_ _ | (with_reducible refine up_set ?_ ?hset _; case hset => first | (simp; done) | (simp; omega) | omega) | with_reducible refine up_trans ?_ (by with_reducible assumption))))
end Go.Proofs.Ytljdhicmcmppgaa
