/-
  What FnFormChanges asks, in plain numbers.
-/
import Derived.Test.YtljbcfgecbonnaaBounds
import Derived.Test.YtljbcfgecbonnaaMiddle
import Derived.Test.YtljbcfgecbonnaaClosest
import Derived.Test.YtljbcfgecbonnaaSpread
import Derived.Test.YtljbcfgecbonnaaJoin
namespace Go.Proofs.Ytljbcfgecbonnaa
open Go.RowKit

theorem bdLo_le (X : Nat → Int) : ∀ n i, i < n → bdLo X n ≤ X i
  | 0, _, h => absurd h (by omega)
  | n + 1, i, h => by
    simp only [bdLo]
    by_cases e : i = n
    · subst e; omega
    · have := bdLo_le X n i (by omega); omega
theorem bdHi_ge (X : Nat → Int) : ∀ n i, i < n → X i ≤ bdHi X n
  | 0, _, h => absurd h (by omega)
  | n + 1, i, h => by
    simp only [bdHi]
    by_cases e : i = n
    · subst e; omega
    · have := bdHi_ge X n i (by omega); omega
theorem sumN_lohi {X : Nat → Int} {lo hi : Int} {n : Nat} (h : ∀ i, i < n → lo ≤ X i ∧ X i ≤ hi) : ∀ k, k ≤ n → (k : Int) * lo ≤ sumN X k ∧ sumN X k ≤ (k : Int) * hi
  | 0, _ => by simp [sumN]
  | k + 1, hk => by
    have a := sumN_lohi h k (by omega)
    have b := h k (by omega)
    have e1 : ((k + 1 : Nat) : Int) * lo = k * lo + lo := by rw [Int.natCast_add, Int.add_mul]; simp
    have e2 : ((k + 1 : Nat) : Int) * hi = k * hi + hi := by rw [Int.natCast_add, Int.add_mul]; simp
    simp only [sumN]
    rw [e1, e2]
    omega
theorem rd_between {a lo hi : Int} {n : Nat} (hn : 1 ≤ n) (h1 : (n : Int) * lo ≤ a) (h2 : a ≤ (n : Int) * hi) : lo ≤ rd a n ∧ rd a n ≤ hi := by
  unfold rd
  have e1 : lo * (2 * (n : Int)) = 2 * ((n : Int) * lo) := by rw [Int.mul_comm lo, Int.mul_assoc]
  have e2 : (hi + 1) * (2 * (n : Int)) = 2 * ((n : Int) * hi) + 2 * n := by rw [Int.add_mul, Int.mul_comm hi, Int.mul_assoc]; simp
  constructor
  · refine (Int.le_ediv_iff_mul_le (by omega)).2 ?_
    rw [e1]; omega
  · have : (2 * a + n) / (2 * (n : Int)) < hi + 1 := (Int.ediv_lt_iff_lt_mul (by omega)).2 (by rw [e2]; omega)
    omega
/-- The middle is between the bounds. -/
theorem mid_in (X : Nat → Int) {n : Nat} (hn : 1 ≤ n) : bdLo X n ≤ rd (sumN X n) n ∧ rd (sumN X n) n ≤ bdHi X n := by
  have h := sumN_lohi (X := X) (lo := bdLo X n) (hi := bdHi X n) (n := n) (fun i hi => ⟨bdLo_le X n i hi, bdHi_ge X n i hi⟩) n (Nat.le_refl _)
  exact rd_between hn h.1 h.2
theorem spX_100 (X : Nat → Int) (m : Int) (i : Nat) : spX X m 100 i = X i := by
  unfold spX rd
  omega
theorem spB_100 {n : Nat} {X Y : Nat → Int} (h : chartB n X Y = true) : spB n X Y 100 = true := by
  unfold spB
  rw [h, chartB_cong (X' := X) (Y' := Y) (fun i _ => spX_100 X _ i) (fun i _ => spX_100 Y _ i), h]
  simp [inB]
/-- Two spots of a chart are apart. -/
theorem room_pos {n : Nat} {X Y : Nat → Int} (h : chartB n X Y = true) (h2 : 2 ≤ n) : 0 < sqD X Y (cp (sqD X Y) n).1 (cp (sqD X Y) n).2 := by
  obtain ⟨_, _, hd⟩ := chartB_iff.1 h
  obtain ⟨h3, h4⟩ := cpAll_bd (D := sqD X Y) (n := n) (k := n) h2 (Nat.le_refl _)
  have hne := hd (cp (sqD X Y) n).2 (cp (sqD X Y) n).1 h4 h3
  unfold cp at *
  generalize (cpAll (sqD X Y) n n).1 = a at *
  generalize (cpAll (sqD X Y) n n).2 = b at *
  unfold sqD sq
  have k1 : 0 ≤ (X a - X b) * (X a - X b) := by
    rcases Int.le_total 0 (X a - X b) with q | q
    · exact Int.mul_nonneg q q
    · exact Int.mul_nonneg_of_nonpos_of_nonpos q q
  have k2 : 0 ≤ (Y a - Y b) * (Y a - Y b) := by
    rcases Int.le_total 0 (Y a - Y b) with q | q
    · exact Int.mul_nonneg q q
    · exact Int.mul_nonneg_of_nonpos_of_nonpos q q
  by_cases e1 : X a = X b
  · have e2 : ¬ Y a - Y b = 0 := fun e => hne ⟨by omega, by omega⟩
    have : (Y a - Y b) * (Y a - Y b) ≠ 0 := fun e => by rcases Int.mul_eq_zero.1 e with q | q <;> exact e2 q
    omega
  · have e2 : ¬ X a - X b = 0 := by omega
    have : (X a - X b) * (X a - X b) ≠ 0 := fun e => by rcases Int.mul_eq_zero.1 e with q | q <;> exact e2 q
    omega
end Go.Proofs.Ytljbcfgecbonnaa
