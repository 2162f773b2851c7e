/-
  ChangedSpots on both sides.
-/
import Derived.Test.YtamoanhjajnahaaRows
import Derived.Test.YtamoanhjajnahaaBase
import Derived.Test.YtamoanhjajnahaaSpot
import Derived.Test.YtamoanhjajnahaaSlice
import Derived.Test.YtamoanhjajnahaaChart
import Derived.Test.YtamoanhjajnahaaForm
import Derived.Test.YtamoanhjajnahaaInts
import Derived.Test.YtamoanhjajnahaaIntsL
namespace Go.Proofs.Ytamoanhjajnahaa
open Go.RowKit Go.Sort

theorem neq_spot (x y u v : Int) (w : World) : (binOp .neq 82 (.agg #[.int .i64 x, .int .i64 y]) (.agg #[.int .i64 u, .int .i64 v])).run Try.prog w = .ok (.bool (!same x y u v)) w := by
  have u3 := Try.underlying3
  have a3 := Try.isAgg3
  have z3 := Try.sizeOf3
  have hS : Try.prog.underlying 82 = some (.struct (Try.prog.fieldsOf 82)) := by kernel_rfl
  have hp : Try.prog.stoodInHeld 82 = false := by kernel_rfl
  unfold same
  rw [run_neq_struct, show (10000 : Nat) = 9999 + 1 from rfl, run_equalIn_agg w 9999 82 _ _ hS hp]
  simp only [Program.fieldsOf, Try.underlying82]
  go_simp
  by_cases h1 : x = u <;> by_cases h2 : y = v <;> simp [h1, h2]
/-- The places below n that D holds of, in order. -/
def chL (D : Nat → Bool) : Nat → List Int
  | 0 => []
  | k + 1 => if D k then chL D k ++ [(k : Int)] else chL D k
theorem chL_len (D : Nat → Bool) : ∀ k, (chL D k).length ≤ k
  | 0 => Nat.le_refl _
  | k + 1 => by
    have := chL_len D k
    unfold chL
    split
    · rw [List.length_append]; simp; omega
    · omega
/-- Where two lists of spots differ. -/
def difB (X Y X' Y' : Nat → Int) (i : Nat) : Bool := !same (X i) (Y i) (X' i) (Y' i)
def cpB (n : Nat) (X Y : Nat → Int) (m : Nat) (X' Y' : Nat → Int) : Bool := (chartB n X Y && chartB m X' Y') && decide (n = m)
def cgN (n : Nat) (X Y : Nat → Int) (m : Nat) (X' Y' : Nat → Int) : Nat := if cpB n X Y m X' Y' then (chL (difB X Y X' Y') n).length else 0
def cgX (n : Nat) (X Y X' Y' : Nat → Int) (i : Nat) : Int := (chL (difB X Y X' Y') n).getD i 0
theorem cgN_le (n : Nat) (X Y : Nat → Int) (m : Nat) (X' Y' : Nat → Int) : cgN n X Y m X' Y' ≤ n := by
  unfold cgN
  split
  · exact chL_len _ _
  · omega
set_option maxHeartbeats 1000000 in
theorem chPair_g (v v' : Value) (n m : Nat) (X Y X' Y' : Nat → Int) (w : World) (h : Spots w v n X Y) (h' : Spots w v' m X' Y') (hn : n ≤ 1048576) (hm : m ≤ 1048576) :
    Calls Try.prog 99 #[v, v'] w (Ans w (.bool (cpB n X Y m X' Y'))) := by
  cases hc : chartB n X Y with
  | false =>
    rw [show cpB n X Y m X' Y' = false by simp [cpB, hc]]
    go_enter Try.func99, Try.ntmps99
    go_wp2_with ((go_at_call 107; refine (chGood_g _ _ _ _ _ (by first | exact Spots.up (by with_reducible assumption) (by (repeat (first | with_reducible exact Below.refl _ _ | with_reducible assumption | with_reducible refine up_alloc ?_ _ | with_reducible refine up_drew ?_ | with_reducible refine up_drewN ?_ _ | (with_reducible refine up_set ?_ ?hset _; case hset => first | (simp; done) | (simp; omega) | omega) | with_reducible refine up_trans ?_ (by with_reducible assumption)))) | exact OwnS.spots (OwnS.up (by with_reducible assumption) (by (repeat (first | with_reducible exact Below.refl _ _ | with_reducible assumption | with_reducible refine up_alloc ?_ _ | with_reducible refine up_drew ?_ | with_reducible refine up_drewN ?_ _ | (with_reducible refine up_set ?_ ?hset _; case hset => first | (simp; done) | (simp; omega) | omega) | with_reducible refine up_trans ?_ (by with_reducible assumption)))))) (by omega)).mono ?_; rintro e w1 ⟨rfl, hb⟩))
    go_ret
    exact ⟨rfl, by (repeat (first | with_reducible exact Below.refl _ _ | with_reducible assumption | with_reducible refine up_alloc ?_ _ | with_reducible refine up_drew ?_ | with_reducible refine up_drewN ?_ _ | (with_reducible refine up_set ?_ ?hset _; case hset => first | (simp; done) | (simp; omega) | omega) | with_reducible refine up_trans ?_ (by with_reducible assumption)))⟩
  | true =>
    cases hc' : chartB m X' Y' with
    | false =>
      rw [show cpB n X Y m X' Y' = false by simp [cpB, hc']]
      go_enter Try.func99, Try.ntmps99
      go_wp2_with ((go_at_call 107; refine (chGood_g _ _ _ _ _ (by first | exact Spots.up (by with_reducible assumption) (by (repeat (first | with_reducible exact Below.refl _ _ | with_reducible assumption | with_reducible refine up_alloc ?_ _ | with_reducible refine up_drew ?_ | with_reducible refine up_drewN ?_ _ | (with_reducible refine up_set ?_ ?hset _; case hset => first | (simp; done) | (simp; omega) | omega) | with_reducible refine up_trans ?_ (by with_reducible assumption)))) | exact OwnS.spots (OwnS.up (by with_reducible assumption) (by (repeat (first | with_reducible exact Below.refl _ _ | with_reducible assumption | with_reducible refine up_alloc ?_ _ | with_reducible refine up_drew ?_ | with_reducible refine up_drewN ?_ _ | (with_reducible refine up_set ?_ ?hset _; case hset => first | (simp; done) | (simp; omega) | omega) | with_reducible refine up_trans ?_ (by with_reducible assumption)))))) (by omega)).mono ?_; rintro e w1 ⟨rfl, hb⟩))
      go_ret
      exact ⟨rfl, by (repeat (first | with_reducible exact Below.refl _ _ | with_reducible assumption | with_reducible refine up_alloc ?_ _ | with_reducible refine up_drew ?_ | with_reducible refine up_drewN ?_ _ | (with_reducible refine up_set ?_ ?hset _; case hset => first | (simp; done) | (simp; omega) | omega) | with_reducible refine up_trans ?_ (by with_reducible assumption)))⟩
    | true =>
      obtain ⟨A, c, hv, hnc, hrow⟩ := h
      have HV : Spots w v n X Y := ⟨A, c, hv, hnc, hrow⟩
      obtain ⟨A', c', hv', hnc', hrow'⟩ := h'
      have HV' : Spots w v' m X' Y' := ⟨A', c', hv', hnc', hrow'⟩
      subst hv hv'
      clear hrow hrow'
      rw [show cpB n X Y m X' Y' = ((n : Int) == (m : Int)) by simp only [cpB, hc, hc', Bool.and_self, Bool.true_and]; by_cases e : n = m <;> simp [e]; omega]
      go_enter Try.func99, Try.ntmps99
      go_wp2_with ((go_at_call 107; refine (chGood_g _ _ _ _ _ (by first | exact Spots.up (by with_reducible assumption) (by (repeat (first | with_reducible exact Below.refl _ _ | with_reducible assumption | with_reducible refine up_alloc ?_ _ | with_reducible refine up_drew ?_ | with_reducible refine up_drewN ?_ _ | (with_reducible refine up_set ?_ ?hset _; case hset => first | (simp; done) | (simp; omega) | omega) | with_reducible refine up_trans ?_ (by with_reducible assumption)))) | exact OwnS.spots (OwnS.up (by with_reducible assumption) (by (repeat (first | with_reducible exact Below.refl _ _ | with_reducible assumption | with_reducible refine up_alloc ?_ _ | with_reducible refine up_drew ?_ | with_reducible refine up_drewN ?_ _ | (with_reducible refine up_set ?_ ?hset _; case hset => first | (simp; done) | (simp; omega) | omega) | with_reducible refine up_trans ?_ (by with_reducible assumption)))))) (by omega)).mono ?_; rintro e w1 ⟨rfl, hb⟩))
      go_ret
      exact ⟨rfl, by (repeat (first | with_reducible exact Below.refl _ _ | with_reducible assumption | with_reducible refine up_alloc ?_ _ | with_reducible refine up_drew ?_ | with_reducible refine up_drewN ?_ _ | (with_reducible refine up_set ?_ ?hset _; case hset => first | (simp; done) | (simp; omega) | omega) | with_reducible refine up_trans ?_ (by with_reducible assumption)))⟩
end Go.Proofs.Ytamoanhjajnahaa
