/-
  Rounded division on both sides.
-/
import Derived.Test.YtljbcfgecbonnaaRows
import Derived.Test.YtljbcfgecbonnaaBase
import Derived.Test.YtljbcfgecbonnaaSpot
namespace Go.Proofs.Ytljbcfgecbonnaa
open Go.RowKit

theorem fdiv_neg {x c : Int} (hc : 0 < c) (h : Int.tmod x c < 0) : Int.tdiv x c - 1 = x / c := by
  have h1 := Int.mul_tdiv_add_tmod x c
  have h2 : -c < Int.tmod x c := by
    have := Int.lt_tmod_of_pos x hc
    omega
  exact ((Int.ediv_emod_unique (a := x) (b := c) (r := Int.tmod x c + c) (q := Int.tdiv x c - 1) hc).2 ⟨by rw [Int.mul_sub]; omega, by omega, by omega⟩).1.symm
theorem fdiv_pos {x c : Int} (hc : 0 < c) (h : ¬ Int.tmod x c < 0) : Int.tdiv x c = x / c := by
  have h1 := Int.mul_tdiv_add_tmod x c
  have h2 : Int.tmod x c < c := Int.tmod_lt_of_pos x hc
  exact ((Int.ediv_emod_unique (a := x) (b := c) (r := Int.tmod x c) (q := Int.tdiv x c) hc).2 ⟨by omega, by omega, by omega⟩).1.symm
/-- a / b, rounded to the nearest. -/
def rd (a b : Int) : Int := (2 * a + b) / (2 * b)
theorem ediv_bd {a b K : Int} (hb : 0 < b) (h0 : -K ≤ a) (h1 : a ≤ K) : -K ≤ a / b ∧ a / b ≤ K := by
  have hK : K ≤ K * b := by
    have := Int.mul_le_mul_of_nonneg_left (show 1 ≤ b by omega) (show 0 ≤ K by omega)
    rwa [Int.mul_one] at this
  exact ⟨Int.le_ediv_of_mul_le hb (by rw [Int.neg_mul]; omega), Int.ediv_le_of_le_mul hb (by omega)⟩
theorem tmod_sign {x c : Int} : Int.tmod x c < 0 ↔ x < 0 ∧ Int.tmod x c ≠ 0 := by
  constructor
  · intro h
    refine ⟨?_, by omega⟩
    rcases Int.lt_or_le x 0 with h0 | h0
    · exact h0
    · have := Int.tmod_nonneg c h0; omega
  · rintro ⟨h1, h2⟩
    have h3 := Int.tmod_nonneg (a := -x) c (by omega)
    rw [Int.neg_tmod] at h3
    omega
theorem rd_nonneg {a b : Int} (ha : 0 ≤ a) (hb : 0 < b) : 0 ≤ rd a b := Int.ediv_nonneg (by omega) (by omega)
theorem rd_bd {a b K : Int} (hb : 0 < b) (h0 : -K ≤ 2 * a + b) (h1 : 2 * a + b ≤ K) : -K ≤ rd a b ∧ rd a b ≤ K := ediv_bd (by omega) h0 h1
set_option maxHeartbeats 400000 in
theorem floorDiv_any (a b : Int) (hb : 0 < b) (hb' : b ≤ 4611686018427387903) (ha : -4611686018427387903 ≤ a) (ha' : a ≤ 4611686018427387903) (w : World) :
    Calls Try.prog 153 #[.int .i64 a, .int .i64 b] w fun e w' => e = .returned (.int .i64 (a / b)) ∧ w = w' := by
  have hne : b ≠ 0 := by omega
  have hbd := ediv_bd hb ha ha'
  by_cases h : Int.tmod a b < 0
  · have H := fdiv_neg hb h
    go_enter Try.func153, Try.ntmps153
    go_wp2
    go_ret
    exact ⟨ret_int rfl, rfl⟩
  · have H := fdiv_pos hb h
    go_enter Try.func153, Try.ntmps153
    go_wp2
    go_ret
    exact ⟨ret_int rfl, rfl⟩
set_option maxHeartbeats 400000 in
theorem roundDiv_any (a b : Int) (hb : 0 < b) (hb' : b ≤ 1000000000) (ha : -1000000000 ≤ a) (ha' : a ≤ 1000000000) (w : World) :
    Calls Try.prog 99 #[.int .i64 a, .int .i64 b] w fun e w' => e = .returned (.int .i64 (rd a b)) ∧ w = w' := by
  go_enter Try.func99, Try.ntmps99
  go_wp2_with (go_at_call 153; refine (floorDiv_any _ _ (by omega) (by omega) (by omega) (by omega) _).mono ?_; rintro e w1 ⟨rfl, rfl⟩)
  go_ret
  exact ⟨rfl, rfl⟩
set_option maxHeartbeats 400000 in
theorem fmRound_any (a b : Int) (hb : 0 < b) (hb' : b ≤ 1000000000) (ha : -1000000000 ≤ a) (ha' : a ≤ 1000000000) (w : World) :
    Calls Try.prog 102 #[.int .i64 a, .int .i64 b] w fun e w' => e = .returned (.int .i64 (rd a b)) ∧ w = w' := by
  have hne : 2 * b ≠ 0 := by omega
  have hbd := ediv_bd (a := 2 * a + b) (b := 2 * b) (K := 4000000000) (by omega) (by omega) (by omega)
  have hs := tmod_sign (x := 2 * a + b) (c := 2 * b)
  by_cases h : Int.tmod (2 * a + b) (2 * b) < 0
  · have H := fdiv_neg (by omega) h
    obtain ⟨h1, h2⟩ := hs.1 h
    clear hs
    go_enter Try.func102, Try.ntmps102
    go_wp2
    go_ret
    exact ⟨ret_int rfl, rfl⟩
  · have H := fdiv_pos (by omega) h
    by_cases h1 : 2 * a + b < 0
    · have h2 : Int.tmod (2 * a + b) (2 * b) = 0 := Classical.byContradiction fun h2 => h (hs.2 ⟨h1, h2⟩)
      clear hs
      go_enter Try.func102, Try.ntmps102
      go_wp2
      go_ret
      exact ⟨ret_int rfl, rfl⟩
    · clear hs
      go_enter Try.func102, Try.ntmps102
      go_wp2
      go_ret
      exact ⟨ret_int rfl, rfl⟩
end Go.Proofs.Ytljbcfgecbonnaa
