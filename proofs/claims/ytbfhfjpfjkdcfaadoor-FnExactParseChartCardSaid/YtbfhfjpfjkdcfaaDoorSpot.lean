/-
  What the small functions on numbers and spots hand back.
-/
import Derived.Test.YtbfhfjpfjkdcfaaDoorRows
import Derived.Test.YtbfhfjpfjkdcfaaDoorBase
namespace Go.Proofs.YtbfhfjpfjkdcfaaDoor
open Go.RowKit

/-- lo ≤ n ≤ hi, as a Bool. -/
def inB (n lo hi : Int) : Bool := decide (lo ≤ n) && decide (n ≤ hi)
theorem inB_iff {n lo hi : Int} : inB n lo hi = true ↔ lo ≤ n ∧ n ≤ hi := by simp [inB]

set_option maxHeartbeats 400000 in
theorem within_any (n lo hi : Int) (w : World) :
    Calls Tryd.prog 33 #[.int .i64 n, .int .i64 lo, .int .i64 hi] w fun e w' => e = .returned (.bool (inB n lo hi)) ∧ w = w' := by
  have H := Lib.hid (show inB n lo hi = (decide (lo ≤ n) && decide (n ≤ hi)) from rfl)
  go_enter Tryd.func33, Tryd.ntmps33
  go_wp2
  all_goals
    go_ret
    refine ⟨?_, rfl⟩
    rw [H.out]
    first | (congr 2; simp; omega) | (congr 2; simp [*]; done) | (congr 2; simp [*]; omega)
set_option maxHeartbeats 400000 in
theorem l1In_any (n lo hi : Int) (w : World) :
    Calls Tryd.prog 31 #[.int .i64 n, .int .i64 lo, .int .i64 hi] w fun e w' => e = .returned (.bool (inB n lo hi)) ∧ w = w' := by
  have H := Lib.hid (show inB n lo hi = (decide (lo ≤ n) && decide (n ≤ hi)) from rfl)
  go_enter Tryd.func31, Tryd.ntmps31
  go_wp2
  all_goals
    go_ret
    refine ⟨?_, rfl⟩
    rw [H.out]
    first | (congr 2; simp; omega) | (congr 2; simp [*]; done) | (congr 2; simp [*]; omega)
/-- A spot's numbers are valid. -/
def spotB (x y : Int) : Bool := inB x 0 1280 && inB y 0 672
theorem spotB_iff {x y : Int} : spotB x y = true ↔ (0 ≤ x ∧ x ≤ 1280) ∧ (0 ≤ y ∧ y ≤ 672) := by simp [spotB, inB]

set_option maxHeartbeats 400000 in
theorem isSpot_any (x y : Int) (w : World) :
    Calls Tryd.prog 29 #[.agg #[.int .i64 x, .int .i64 y]] w (Ans w (.bool (spotB x y))) := by
  have H := Lib.hid (show spotB x y = (inB x 0 1280 && inB y 0 672) from rfl)
  go_enter Tryd.func29, Tryd.ntmps29
  go_wp2_with (go_at_call 33; refine (within_any _ _ _ _).mono ?_; rintro e w' ⟨rfl, rfl⟩)
  all_goals
    go_ret
    exact Ans.bool (by rw [H.out]; simp [*]) (below_alloc _ _)
set_option maxHeartbeats 400000 in
theorem stGood_any (x y : Int) (w : World) :
    Calls Tryd.prog 30 #[.agg #[.int .i64 x, .int .i64 y]] w (Ans w (.bool (spotB x y))) := by
  have H := Lib.hid (show spotB x y = (inB x 0 1280 && inB y 0 672) from rfl)
  go_enter Tryd.func30, Tryd.ntmps30
  go_wp2_with (go_at_call 31; refine (l1In_any _ _ _ _).mono ?_; rintro e w' ⟨rfl, rfl⟩)
  all_goals
    go_ret
    exact Ans.bool (by rw [H.out]; simp [*]) (below_alloc _ _)
/-- The square of two spots. -/
def sq (x y u v : Int) : Int := (x - u) * (x - u) + (y - v) * (y - v)

/-- A product of two numbers of at most 1280 and 672 and the like. -/
theorem mul_bd {a b A B : Int} (ha : -A ≤ a) (ha' : a ≤ A) (hb : -B ≤ b) (hb' : b ≤ B) : -(A * B) ≤ a * b ∧ a * b ≤ A * B := by
  have hA : 0 ≤ A := by omega
  have hB : 0 ≤ B := by omega
  have h1 := Int.mul_nonneg (show 0 ≤ A - a by omega) (show 0 ≤ B - b by omega)
  have h2 := Int.mul_nonneg (show 0 ≤ A + a by omega) (show 0 ≤ B + b by omega)
  have h3 := Int.mul_nonneg (show 0 ≤ A - a by omega) (show 0 ≤ B + b by omega)
  have h4 := Int.mul_nonneg (show 0 ≤ A + a by omega) (show 0 ≤ B - b by omega)
  constructor <;> grind
theorem sq_nonneg (a : Int) : 0 ≤ a * a := by
  rcases Int.le_total 0 a with h | h
  · exact Int.mul_nonneg h h
  · have := Int.mul_nonneg (show 0 ≤ -a by omega) (show 0 ≤ -a by omega); grind
theorem sq_bd {x y u v : Int} (h : spotB x y = true) (h' : spotB u v = true) : 0 ≤ sq x y u v ∧ sq x y u v ≤ 2089984 := by
  rw [spotB_iff] at h h'
  have a := mul_bd (a := x - u) (b := x - u) (A := 1280) (B := 1280) (by omega) (by omega) (by omega) (by omega)
  have b := mul_bd (a := y - v) (b := y - v) (A := 672) (B := 672) (by omega) (by omega) (by omega) (by omega)
  have c := sq_nonneg (x - u)
  have d := sq_nonneg (y - v)
  unfold sq
  omega

set_option maxHeartbeats 400000 in
theorem toSpot_at (x y : Int) (w : World) :
    Calls Tryd.prog 21 #[.agg #[.int .i64 x, .int .i64 y]] w fun e w' => e = .returned (.agg #[.int .i64 x, .int .i64 y]) ∧
      ((w.alloc (.cells #[.int .i64 x, .int .i64 y] 46)).alloc (.cells #[.int .i64 x, .int .i64 y] 38)).alloc (.cells #[.int .i64 x, .int .i64 y] 38) = w' := by
  go_enter Tryd.func21, Tryd.ntmps21
  go_wp2
  refine bodyPost_ret (v := .agg #[.int .i64 x, .int .i64 y]) (by simp [results, Tryd.results21, go_sem]) rfl ?_
  exact ⟨rfl, rfl⟩
theorem toSpot_any (x y : Int) (w : World) : Calls Tryd.prog 21 #[.agg #[.int .i64 x, .int .i64 y]] w (Ans w (.agg #[.int .i64 x, .int .i64 y])) :=
  (toSpot_at x y w).mono fun _ _ ⟨h1, h2⟩ => ⟨h1, by subst h2; (repeat (first | with_reducible exact Below.refl _ _ | with_reducible assumption | with_reducible refine up_alloc ?_ _ | with_reducible refine up_drew ?_ | with_reducible refine up_drewN ?_ _ | (with_reducible refine up_set ?_ ?hset _; case hset => first | (simp; done) | (simp; omega) | omega) | with_reducible refine up_trans ?_ (by with_reducible assumption)))⟩
end Go.Proofs.YtbfhfjpfjkdcfaaDoor
