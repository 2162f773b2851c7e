/-
  Plain laws of FnForms.
-/
import Derived.Test.YtljbcfgecbonnaaRows
import Derived.Test.YtljbcfgecbonnaaBase
import Derived.Test.YtljbcfgecbonnaaSpot
import Derived.Test.YtljbcfgecbonnaaSlice
import Derived.Test.YtljbcfgecbonnaaChart
import Derived.Test.YtljbcfgecbonnaaRound
import Derived.Test.YtljbcfgecbonnaaLine
import Derived.Test.YtljbcfgecbonnaaBlock
import Derived.Test.YtljbcfgecbonnaaWedge
import Derived.Test.YtljbcfgecbonnaaPoly
import Derived.Test.YtljbcfgecbonnaaTurn
namespace Go.Proofs.Ytljbcfgecbonnaa
open Go.RowKit

theorem rd_mul (a b : Int) (hb : 0 < b) : rd (b * a) b = a := by
  unfold rd
  rw [show 2 * (b * a) + b = b + (2 * b) * a by rw [Int.mul_assoc]; omega, Int.add_mul_ediv_left _ _ (by omega), Int.ediv_eq_zero_of_lt (by omega) (by omega)]
  omega
theorem alongN (x u c : Int) (hc : 0 < c) : along x u c c = u := by
  unfold along
  rw [rd_mul _ _ hc]; omega
theorem ln_facts {x y u v p : Int} (h : lnB x y u v p = true) : (1 ≤ p ∧ p ≤ 12) ∧ chartB p.toNat (lnX x u (lnC p)) (lnX y v (lnC p)) = true ∧ (lnX x u (lnC p) 0 = x ∧ lnX y v (lnC p) 0 = y) ∧
    (1 < p → lnX x u (lnC p) (p - 1).toNat = u ∧ lnX y v (lnC p) (p - 1).toNat = v) := by
  unfold lnB lnOk at h
  simp only [Bool.and_eq_true, inB_iff] at h
  obtain ⟨⟨_, h1, h2⟩, h3⟩ := h
  have hc : 0 < lnC p := by unfold lnC; omega
  refine ⟨⟨h1, h2⟩, h3, ⟨along0 _ _ _ hc, along0 _ _ _ hc⟩, fun hp => ?_⟩
  have e : (((p - 1).toNat : Nat) : Int) = lnC p := by unfold lnC; omega
  unfold lnX
  rw [e]
  exact ⟨alongN _ _ _ hc, alongN _ _ _ hc⟩
theorem bl_facts {x y rows files fx fy : Int} (h : blB x y rows files fx fy = true) : ((1 ≤ rows ∧ rows ≤ 12) ∧ 1 ≤ files ∧ files ≤ 12) ∧ ((0 ≤ x ∧ x ≤ 1280) ∧ 0 ≤ y ∧ y ≤ 672) ∧ (-200 ≤ fx ∧ fx ≤ 200) ∧ (-200 ≤ fy ∧ fy ≤ 200) := by
  unfold blB blOk at h
  simp only [Bool.and_eq_true, inB_iff, spotB_iff] at h
  obtain ⟨⟨⟨⟨⟨a, b⟩, c⟩, d⟩, e⟩, _⟩ := h
  exact ⟨⟨b, c⟩, a, d, e⟩
theorem po_facts {n : Nat} {X Y : Nat → Int} {p : Int} (h : poB n X Y p = true) : (1 ≤ p ∧ p ≤ 12) ∧ 2 ≤ n ∧ n ≤ 8 ∧ (poX X (n - 1) (poC p) 0 = X 0 ∧ poX Y (n - 1) (poC p) 0 = Y 0) ∧
    (1 < p → poX X (n - 1) (poC p) (p - 1).toNat = X (n - 1) ∧ poX Y (n - 1) (poC p) (p - 1).toNat = Y (n - 1)) := by
  unfold poB poOk at h
  simp only [Bool.and_eq_true, inB_iff] at h
  obtain ⟨⟨⟨⟨_, h1, h2⟩, h3, h4⟩, _⟩, _⟩ := h
  have hc : 0 < ((poC p : Nat) : Int) := by unfold poC; omega
  have hc1 : 1 ≤ poC p := by omega
  have hn : 2 ≤ n := by omega
  have e0 : poI (n - 1) (poC p) 0 = 0 := by unfold poI; simp
  have key0 : ∀ Z : Nat → Int, poX Z (n - 1) (poC p) 0 = Z 0 := fun Z => by
    unfold poX
    rw [e0]
    simp only [Nat.zero_mul, Int.sub_self]
    exact along0 _ _ _ hc
  refine ⟨⟨h3, h4⟩, hn, by omega, ⟨key0 X, key0 Y⟩, fun hp => ?_⟩
  obtain ⟨c, ec⟩ : ∃ c, poC p = c := ⟨_, rfl⟩
  have e : (p - 1).toNat = c := by rw [← ec]; unfold poC; omega
  rw [e]
  rw [ec] at hc hc1 ⊢
  obtain ⟨m, em⟩ : ∃ m, n = m + 2 := ⟨n - 2, by omega⟩
  subst em
  have e1 : poI (m + 2 - 1) c c = m := by
    unfold poI
    rw [Nat.mul_comm, Nat.mul_div_cancel _ hc1]
    omega
  have keyN : ∀ Z : Nat → Int, poX Z (m + 2 - 1) c c = Z (m + 2 - 1) := fun Z => by
    unfold poX
    rw [e1, show m + 2 - 1 = m + 1 from rfl]
    rw [show ((c * (m + 1) : Nat) : Int) - ((m * c : Nat) : Int) = (c : Int) by rw [Nat.mul_add, Nat.mul_comm m c]; omega]
    exact alongN _ _ _ hc
  exact ⟨keyN X, keyN Y⟩
theorem rot_sub (k : Nat) (p q : Int × Int) : (rot k p).1 - (rot k q).1 = (rot k (p.1 - q.1, p.2 - q.2)).1 ∧ (rot k p).2 - (rot k q).2 = (rot k (p.1 - q.1, p.2 - q.2)).2 := by
  induction k with
  | zero => exact ⟨rfl, rfl⟩
  | succ k ih =>
    simp only [rot]
    obtain ⟨h1, h2⟩ := ih
    exact ⟨by omega, h1⟩
theorem rot_sq (k : Nat) (p : Int × Int) : (rot k p).1 * (rot k p).1 + (rot k p).2 * (rot k p).2 = p.1 * p.1 + p.2 * p.2 := by
  induction k with
  | zero => rfl
  | succ k ih =>
    simp only [rot]
    rw [Int.neg_mul_neg, ← ih]
    omega
theorem tu_sq (X Y : Nat → Int) (mx my : Int) (q i j : Nat) : sq (tuX X Y mx my q i) (tuY X Y mx my q i) (tuX X Y mx my q j) (tuY X Y mx my q j) = sq (X i) (Y i) (X j) (Y j) := by
  unfold sq tuX tuY
  have h := rot_sub q (X i - mx, Y i - my) (X j - mx, Y j - my)
  rw [show ∀ a b : Int, mx + a - (mx + b) = a - b from fun a b => by omega, show ∀ a b : Int, my + a - (my + b) = a - b from fun a b => by omega, h.1, h.2, rot_sq]
  simp only
  rw [show X i - mx - (X j - mx) = X i - X j by omega, show Y i - my - (Y j - my) = Y i - Y j by omega]
theorem tu_facts {n : Nat} {X Y : Nat → Int} {p : Int} (h : tuB n X Y p = true) : chartB n X Y = true ∧ chartB n (tuX X Y (rd (sumN X n) n) (rd (sumN Y n) n) p.toNat) (tuY X Y (rd (sumN X n) n) (rd (sumN Y n) n) p.toNat) = true := by
  unfold tuB at h
  simp only [Bool.and_eq_true] at h
  exact ⟨h.1.1, h.2⟩
end Go.Proofs.Ytljbcfgecbonnaa
