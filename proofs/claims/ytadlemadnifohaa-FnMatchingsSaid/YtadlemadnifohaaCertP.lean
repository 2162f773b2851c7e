import Derived.Test.YtadlemadnifohaaLeastM
/-
  Certificates of the first least matching: plain numbers, no program.
-/
namespace Go.Proofs.Ytadlemadnifohaa

/-- The first least matching. -/
def lcP (n : Nat) (F : Nat → Nat → Int) (r : Nat) : Nat := placeM n F (tabU (· + ·) 1000000000 n F) r
theorem lmP_lcP (n : Nat) (F : Nat → Nat → Int) (r : Nat) : lmP n F r = (lcP n F r : Nat) := rfl
/-- The columns in round t, ahead of the row i and the column k. -/
def stg (n : Nat) (F : Nat → Nat → Int) (t i k j : Nat) : Int := rowR F (lcP n F) i (roundR F (lcP n F) n (roundsR F (lcP n F) n (fun _ => 0) t) i) k j
def lcC (n : Nat) (F : Nat → Nat → Int) (k : Nat) : Int := stg n F n 0 0 k
def lcR (n : Nat) (F : Nat → Nat → Int) (i : Nat) : Int := F i (lcP n F i) - lcC n F (lcP n F i)
section
variable {n : Nat} {F : Nat → Nat → Int}
theorem lcP_perm (h2 : n ≤ 12) (hF : ∀ i k, i < n → k < n → 0 ≤ F i k ∧ F i k ≤ 2100000) : Perm n (lcP n F) :=
  placeM_perm (T := 1000000000) (by omega) (fun i k hi hk => (hF i k hi hk).1) (tab_low (by omega) h2 hF 0)
theorem lcP_sum (h2 : n ≤ 12) (hF : ∀ i k, i < n → k < n → 0 ≤ F i k ∧ F i k ≤ 2100000) : sumC F (lcP n F) n = lmS n F := by
  have := lmS_sum h2 hF
  rw [← this]
  exact (sumP_sumC F _ n).symm
theorem lc_z (h1 : 1 ≤ n) (h2 : n ≤ 12) (hF : ∀ i k, i < n → k < n → 0 ≤ F i k ∧ F i k ≤ 2100000) : ∃ z, Feas n F (lcP n F) z ∧ (∀ k, k < n → z k ≤ 0) ∧ ∀ k, k < n → -2100000 ≤ z k := by
  have hP := lcP_perm h2 hF
  obtain ⟨z, hz, hz0, k, hk, hzk⟩ := feas_ex hP h1 (fun σ hσ => by rw [lcP_sum h2 hF]; exact tabU_least hσ)
  exact ⟨z, hz, hz0, feas_low hP hF hz hk hzk⟩
theorem stg_row (t i j : Nat) : stg n F t i n j = stg n F t (i + 1) 0 j := rfl
theorem stg_round (t j : Nat) : stg n F t n 0 j = stg n F (t + 1) 0 0 j := rfl
theorem stg_zero (j : Nat) : stg n F 0 0 0 j = 0 := rfl
theorem stg_step (t i k j : Nat) : stg n F t i (k + 1) j = if j = k then min (stg n F t i k k) (stg n F t i k (lcP n F i) + (F i k - F i (lcP n F i))) else stg n F t i k j := rfl
theorem stg_le (t i k j : Nat) : stg n F t i k j ≤ stg n F t 0 0 j := Int.le_trans (rowR_le i k j) (roundR_le i j)
theorem stg_rng (h1 : 1 ≤ n) (h2 : n ≤ 12) (hF : ∀ i k, i < n → k < n → 0 ≤ F i k ∧ F i k ≤ 2100000) (t i k : Nat) (hi : i < n) (hk : k ≤ n) : ∀ j, j < n → -2100000 ≤ stg n F t i k j ∧ stg n F t i k j ≤ 0 := by
  obtain ⟨z, hz, hz0, hl⟩ := lc_z h1 h2 hF
  have hP := lcP_perm h2 hF
  intro j hj
  have a := rowR_ge hz hP hi (roundR_ge hz hP (roundsR_ge (x := fun _ => 0) hz hP hz0 t) i (by omega)) k hk j hj
  have b := stg_le (n := n) (F := F) t i k j
  have c : stg n F t 0 0 j ≤ 0 := roundsR_le t j
  have d := hl j hj
  exact ⟨Int.le_trans d a, Int.le_trans b c⟩
/-- A round that turned nothing is the end. -/
theorem stg_fix (h2 : n ≤ 12) (hF : ∀ i k, i < n → k < n → 0 ≤ F i k ∧ F i k ≤ 2100000) (t : Nat) (h : ∀ j, j < n → stg n F t n 0 j = stg n F t 0 0 j) : ∀ j, j < n → stg n F t n 0 j = lcC n F j := by
  have hP := lcP_perm h2 hF
  have hf : Feas n F (lcP n F) (stg n F t 0 0) := fun i k hi hk => by
    have a := roundR_bound (C := F) (P := lcP n F) (n := n) (x := stg n F t 0 0) (i := i) hk n hi
    have b := h k hk
    have c : stg n F t n 0 k = roundR F (lcP n F) n (stg n F t 0 0) n k := rfl
    omega
  have := rounds_greatest hP hf (fun k _ => roundsR_le t k) (fun z hz hz0 k hk => roundsR_ge (x := fun _ => 0) hz hP hz0 t k hk)
  intro j hj
  rw [h j hj]
  exact (this j hj).symm
end
def natS (g : Nat → Nat) : Nat → Nat
  | 0 => 0
  | k + 1 => natS g k + g k
theorem natS_congr {g g' : Nat → Nat} : ∀ n, (∀ k, k < n → g k = g' k) → natS g n = natS g' n
  | 0, _ => rfl
  | n + 1, e => by simp only [natS]; rw [natS_congr n (fun k hk => e k (by omega)), e n (by omega)]
theorem natS_le {g g' : Nat → Nat} : ∀ n, (∀ k, k < n → g k ≤ g' k) → natS g n ≤ natS g' n
  | 0, _ => Nat.le_refl _
  | n + 1, e => by have := natS_le n (fun k hk => e k (by omega)); have := e n (by omega); simp only [natS]; omega
theorem natS_lt {g g' : Nat → Nat} {a : Nat} (ha : g a < g' a) : ∀ n, a < n → (∀ k, k < n → g k ≤ g' k) → natS g n < natS g' n
  | 0, h, _ => absurd h (by omega)
  | n + 1, h, e => by
    simp only [natS]
    by_cases q : a = n
    · subst q
      have := natS_le a (fun k hk => e k (by omega))
      omega
    · have := natS_lt ha n (by omega) (fun k hk => e k (by omega))
      have := e n (by omega)
      omega
/-- How far the columns may still come down. -/
def colsN (n : Nat) (X : Nat → Int) : Nat := natS (fun j => (X j + 2100000).toNat) n
theorem colsN_congr {n : Nat} {X Y : Nat → Int} (h : ∀ j, j < n → X j = Y j) : colsN n X = colsN n Y := natS_congr n (fun k hk => by rw [h k hk])
theorem colsN_lt {n : Nat} {X Y : Nat → Int} (h : ∀ j, j < n → -2100000 ≤ X j ∧ X j ≤ Y j) (hx : ∃ j, j < n ∧ X j < Y j) : colsN n X < colsN n Y := by
  obtain ⟨a, ha, hl⟩ := hx
  refine natS_lt (a := a) ?_ n ha (fun k hk => ?_)
  · have := h a ha
    show (X a + 2100000).toNat < (Y a + 2100000).toNat
    omega
  · have := h k hk
    show (X k + 2100000).toNat ≤ (Y k + 2100000).toNat
    omega
end Go.Proofs.Ytadlemadnifohaa
