/-
  What the small functions on numbers and spots hand back.
-/
import Derived.Test.YtljdhicmcmppgaaRows
import Derived.Test.YtljdhicmcmppgaaBase
namespace Go.Proofs.Ytljdhicmcmppgaa
open Go.RowKit

/-- lo ≤ n ≤ hi, as a Bool. -/
def inB (n lo hi : Int) : Bool := decide (lo ≤ n) && decide (n ≤ hi)
theorem inB_iff {n lo hi : Int} : inB n lo hi = true ↔ lo ≤ n ∧ n ≤ hi := by simp [inB]

set_option maxHeartbeats 400000 in
theorem within_any (n lo hi : Int) (w : World) :
    Calls Try.prog 44 #[.int .i64 n, .int .i64 lo, .int .i64 hi] w fun e w' => e = .returned (.bool (inB n lo hi)) ∧ w = w' := by
  have H := Lib.hid (show inB n lo hi = (decide (lo ≤ n) && decide (n ≤ hi)) from rfl)
  go_enter Try.func44, Try.ntmps44
  go_wp2
  all_goals
    go_ret
    refine ⟨?_, rfl⟩
    rw [H.out]
    first | (congr 2; simp; omega) | (congr 2; simp [*]; done) | (congr 2; simp [*]; omega)
set_option maxHeartbeats 400000 in
theorem l1In_any (n lo hi : Int) (w : World) :
    Calls Try.prog 52 #[.int .i64 n, .int .i64 lo, .int .i64 hi] w fun e w' => e = .returned (.bool (inB n lo hi)) ∧ w = w' := by
  have H := Lib.hid (show inB n lo hi = (decide (lo ≤ n) && decide (n ≤ hi)) from rfl)
  go_enter Try.func52, Try.ntmps52
  go_wp2
  all_goals
    go_ret
    refine ⟨?_, rfl⟩
    rw [H.out]
    first | (congr 2; simp; omega) | (congr 2; simp [*]; done) | (congr 2; simp [*]; omega)
/-- A spot's numbers are valid. -/
def spotB (x y : Int) : Bool := inB x 0 1280 && inB y 0 672
theorem spotB_iff {x y : Int} : spotB x y = true ↔ (0 ≤ x ∧ x ≤ 1280) ∧ (0 ≤ y ∧ y ≤ 672) := by simp [spotB, inB]

set_option maxHeartbeats 400000 in
theorem isSpot_any (x y : Int) (w : World) :
    Calls Try.prog 78 #[.agg #[.int .i64 x, .int .i64 y]] w (Ans w (.bool (spotB x y))) := by
  have H := Lib.hid (show spotB x y = (inB x 0 1280 && inB y 0 672) from rfl)
  go_enter Try.func78, Try.ntmps78
  go_wp2_with (go_at_call 44; refine (within_any _ _ _ _).mono ?_; rintro e w' ⟨rfl, rfl⟩)
  all_goals
    go_ret
    exact Ans.bool (by rw [H.out]; simp [*]) (below_alloc _ _)
set_option maxHeartbeats 400000 in
theorem stGood_any (x y : Int) (w : World) :
    Calls Try.prog 79 #[.agg #[.int .i64 x, .int .i64 y]] w (Ans w (.bool (spotB x y))) := by
  have H := Lib.hid (show spotB x y = (inB x 0 1280 && inB y 0 672) from rfl)
  go_enter Try.func79, Try.ntmps79
  go_wp2_with (go_at_call 52; refine (l1In_any _ _ _ _).mono ?_; rintro e w' ⟨rfl, rfl⟩)
  all_goals
    go_ret
    exact Ans.bool (by rw [H.out]; simp [*]) (below_alloc _ _)
set_option maxHeartbeats 400000 in
theorem l1Least_any (a b : Int) (w : World) :
    Calls Try.prog 69 #[.int .i64 a, .int .i64 b] w fun e w' => e = .returned (.int .i64 (min a b)) ∧ w = w' := by
  have H := Lib.hid (show (a < b → min a b = a) ∧ (¬ a < b → min a b = b) from ⟨fun h => by omega, fun h => by omega⟩)
  go_enter Try.func69, Try.ntmps69
  go_wp2
  · have h : a < b := by assumption
    go_ret
    exact ⟨ret_int (H.out.1 h).symm, rfl⟩
  · have h : ¬ a < b := by first | assumption | omega
    go_ret
    exact ⟨ret_int (H.out.2 (by omega)).symm, rfl⟩
set_option maxHeartbeats 400000 in
theorem l1Most_any (a b : Int) (w : World) :
    Calls Try.prog 51 #[.int .i64 a, .int .i64 b] w fun e w' => e = .returned (.int .i64 (max a b)) ∧ w = w' := by
  have H := Lib.hid (show (b < a → max a b = a) ∧ (¬ b < a → max a b = b) from ⟨fun h => by omega, fun h => by omega⟩)
  go_enter Try.func51, Try.ntmps51
  go_wp2
  · have h : b < a := by assumption
    go_ret
    exact ⟨ret_int (H.out.1 h).symm, rfl⟩
  · have h : ¬ b < a := by first | assumption | omega
    go_ret
    exact ⟨ret_int (H.out.2 (by omega)).symm, rfl⟩
set_option maxHeartbeats 400000 in
theorem l1Abs_any (a : Int) (h0 : -9223372036854775807 ≤ a) (h1 : a ≤ 9223372036854775807) (w : World) :
    Calls Try.prog 71 #[.int .i64 a] w fun e w' => e = .returned (.int .i64 (max a (-a))) ∧ w = w' := by
  go_enter Try.func71, Try.ntmps71
  go_wp2_with (go_at_call 51; refine (l1Most_any _ _ _).mono ?_; rintro e w' ⟨rfl, rfl⟩)
  go_ret
  exact ⟨rfl, rfl⟩
/-- The square of two spots. -/
def sq (x y u v : Int) : Int := (x - u) * (x - u) + (y - v) * (y - v)

/-- A product of two numbers of at most 1280 and 672 and the like. -/
theorem mul_bd {a b A B : Int} (ha : -A ≤ a) (ha' : a ≤ A) (hb : -B ≤ b) (hb' : b ≤ B) : -(A * B) ≤ a * b ∧ a * b ≤ A * B := by
  have hA : 0 ≤ A := by omega
  have hB : 0 ≤ B := by omega
  have h1 := Int.mul_nonneg (show 0 ≤ A - a by omega) (show 0 ≤ B - b by omega)
  have h2 := Int.mul_nonneg (show 0 ≤ A + a by omega) (show 0 ≤ B + b by omega)
  have h3 := Int.mul_nonneg (show 0 ≤ A - a by omega) (show 0 ≤ B + b by omega)
  have h4 := Int.mul_nonneg (show 0 ≤ A + a by omega) (show 0 ≤ B - b by omega)
  constructor <;> grind
theorem sq_nonneg (a : Int) : 0 ≤ a * a := by
  rcases Int.le_total 0 a with h | h
  · exact Int.mul_nonneg h h
  · have := Int.mul_nonneg (show 0 ≤ -a by omega) (show 0 ≤ -a by omega); grind
theorem sq_bd {x y u v : Int} (h : spotB x y = true) (h' : spotB u v = true) : 0 ≤ sq x y u v ∧ sq x y u v ≤ 2089984 := by
  rw [spotB_iff] at h h'
  have a := mul_bd (a := x - u) (b := x - u) (A := 1280) (B := 1280) (by omega) (by omega) (by omega) (by omega)
  have b := mul_bd (a := y - v) (b := y - v) (A := 672) (B := 672) (by omega) (by omega) (by omega) (by omega)
  have c := sq_nonneg (x - u)
  have d := sq_nonneg (y - v)
  unfold sq
  omega

set_option maxHeartbeats 400000 in
theorem squareOf_any (x y u v : Int) (h : spotB x y = true) (h' : spotB u v = true) (w : World) :
    Calls Try.prog 67 #[.agg #[.int .i64 x, .int .i64 y], .agg #[.int .i64 u, .int .i64 v]] w (Ans w (.int .i64 (sq x y u v))) := by
  have H := Lib.hid (show sq x y u v = (x - u) * (x - u) + (y - v) * (y - v) from rfl)
  rw [spotB_iff] at h h'
  obtain ⟨⟨a1, a2⟩, a3, a4⟩ := h
  obtain ⟨⟨b1, b2⟩, b3, b4⟩ := h'
  obtain ⟨c1, c2⟩ := mul_bd (a := x - u) (b := x - u) (A := 1280) (B := 1280) (by omega) (by omega) (by omega) (by omega)
  obtain ⟨d1, d2⟩ := mul_bd (a := y - v) (b := y - v) (A := 672) (B := 672) (by omega) (by omega) (by omega) (by omega)
  go_enter Try.func67, Try.ntmps67
  go_wp2
  go_ret
  exact Ans.int (by rw [H.out]; done) (up_alloc (below_alloc _ _) _)
end Go.Proofs.Ytljdhicmcmppgaa
