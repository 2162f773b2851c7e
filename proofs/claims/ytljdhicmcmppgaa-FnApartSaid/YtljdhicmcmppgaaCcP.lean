/-
  Plain laws of FnChartChanges.
-/
import Derived.Test.YtljdhicmcmppgaaRows
import Derived.Test.YtljdhicmcmppgaaBase
import Derived.Test.YtljdhicmcmppgaaSpot
import Derived.Test.YtljdhicmcmppgaaSlice
import Derived.Test.YtljdhicmcmppgaaChart
import Derived.Test.YtljdhicmcmppgaaSameForm
import Derived.Test.YtljdhicmcmppgaaSwap
import Derived.Test.YtljdhicmcmppgaaPlace
import Derived.Test.YtljdhicmcmppgaaChanged
import Derived.Test.YtljdhicmcmppgaaMoveC
namespace Go.Proofs.Ytljdhicmcmppgaa
open Go.RowKit

theorem sw_sw (i j : Nat) (X : Nat → Int) (t : Nat) : swX i j (swX i j X) t = X t := by
  unfold swX
  by_cases h1 : t = j
  · subst h1
    rw [if_pos rfl]
    by_cases h2 : i = t
    · subst h2; simp
    · rw [if_neg h2, if_pos rfl]
  · rw [if_neg h1]
    by_cases h2 : t = i
    · subst h2
      rw [if_pos rfl, if_pos rfl]
    · rw [if_neg h2, if_neg h1, if_neg h2]
/-- The place that a swap brings to t. -/
def swT (i j t : Nat) : Nat := if t = j then i else if t = i then j else t
theorem sw_at (i j : Nat) (X : Nat → Int) (t : Nat) : swX i j X t = X (swT i j t) := by
  unfold swX swT
  split
  · rfl
  · split <;> rfl
theorem swT_lt {i j t n : Nat} (hi : i < n) (hj : j < n) (ht : t < n) : swT i j t < n := by unfold swT; split; omega; split <;> omega
theorem swT_inj {i j s t : Nat} (h : swT i j s = swT i j t) : s = t := by
  unfold swT at h
  split at h <;> split at h
  all_goals first | omega | (split at h <;> first | omega | (split at h <;> omega))
theorem swT_swT (i j t : Nat) : swT i j (swT i j t) = t := by
  unfold swT
  by_cases h1 : t = j
  · subst h1; rw [if_pos rfl]; by_cases h2 : i = t
    · subst h2; simp
    · rw [if_neg h2, if_pos rfl]
  · rw [if_neg h1]
    by_cases h2 : t = i
    · subst h2; rw [if_pos rfl, if_pos rfl]
    · rw [if_neg h2, if_neg h1, if_neg h2]
theorem chart_ne {n : Nat} {X Y : Nat → Int} (h : chartB n X Y = true) {i j : Nat} (hi : i < n) (hj : j < n) (hij : i ≠ j) : ¬ (X i = X j ∧ Y i = Y j) := by
  have hd := (chartB_iff.1 h).2.2
  rcases Nat.lt_or_gt_of_ne hij with hlt | hlt
  · intro e; exact hd j i hj hlt ⟨e.1.symm, e.2.symm⟩
  · exact hd i j hi hlt
theorem sw_chart {n : Nat} {X Y : Nat → Int} (h : chartB n X Y = true) {i j : Nat} (hi : i < n) (hj : j < n) : chartB n (swX i j X) (swX i j Y) = true := by
  have hc := chartB_iff.1 h
  refine chartB_iff.2 ⟨hc.1, fun k hk => ?_, fun s t hs ht => ?_⟩
  · rw [sw_at, sw_at]; exact hc.2.1 _ (swT_lt hi hj hk)
  · rw [sw_at, sw_at, sw_at, sw_at]
    refine chart_ne h (swT_lt hi hj hs) (swT_lt hi hj (by omega)) (fun e => ?_)
    have := swT_inj e
    omega
theorem same_iff {x y u v : Int} : same x y u v = true ↔ x = u ∧ y = v := by simp [same]
theorem sub_iff {n m : Nat} {X Y X' Y' : Nat → Int} : subB n X Y m X' Y' = true ↔ ∀ i, i < n → ∃ j, j < m ∧ X i = X' j ∧ Y i = Y' j := by
  unfold subB
  rw [allB_iff]
  constructor
  · intro h i hi
    obtain ⟨j, hj, e⟩ := hasB_iff.1 (h i hi)
    exact ⟨j, hj, same_iff.1 e⟩
  · intro h i hi
    obtain ⟨j, hj, e⟩ := h i hi
    exact hasB_iff.2 ⟨j, hj, same_iff.2 e⟩
theorem sw_same {n : Nat} {X Y : Nat → Int} (h : chartB n X Y = true) {i j : Nat} (hi : i < n) (hj : j < n) : sfR n X Y n (swX i j X) (swX i j Y) = true ∧ sfG n X Y n (swX i j X) (swX i j Y) = true := by
  have h2 := sw_chart h hi hj
  have h3 : subB n X Y n (swX i j X) (swX i j Y) = true := sub_iff.2 fun t ht => ⟨swT i j t, swT_lt hi hj ht, by rw [sw_at, swT_swT], by rw [sw_at, swT_swT]⟩
  unfold sfR sfG
  rw [h, h2, h3]
  simp
/-- A map of the numbers below n into those below m that hits none twice. -/
theorem pigeon : ∀ (m n : Nat) (f : Nat → Nat), (∀ i, i < n → f i < m) → (∀ i j, i < n → j < n → f i = f j → i = j) → n ≤ m := by
  intro m
  induction m with
  | zero =>
    intro n f h1 _
    rcases Nat.eq_zero_or_pos n with h | h
    · omega
    · exact absurd (h1 0 h) (by omega)
  | succ m ih =>
    intro n f h1 h2
    by_cases hh : ∃ k, k < n ∧ f k = m
    · obtain ⟨k, hk, ek⟩ := hh
      have := ih (n - 1) (fun i => f (if i < k then i else i + 1)) (fun i hi => by
        have a := h1 (if i < k then i else i + 1) (by split <;> omega)
        rcases Nat.lt_or_ge (f (if i < k then i else i + 1)) m with h | h
        · exact h
        · have e : f (if i < k then i else i + 1) = f k := by omega
          have := h2 _ _ (by split <;> omega) hk e
          split at this <;> omega) (fun i j hi hj e => by
        have := h2 _ _ (by split <;> omega) (by split <;> omega) e
        split at this <;> split at this <;> omega)
      omega
    · have := ih n f (fun i hi => by
        have a := h1 i hi
        rcases Nat.lt_or_ge (f i) m with h | h
        · exact h
        · exact absurd ⟨i, hi, by omega⟩ hh) h2
      omega
theorem sub_comm {n : Nat} {X Y X' Y' : Nat → Int} (h : chartB n X Y = true) (hs : subB n X Y n X' Y' = true) : subB n X' Y' n X Y = true := by
  have H := sub_iff.1 hs
  have key : ∀ i, ∃ j, i < n → j < n ∧ X i = X' j ∧ Y i = Y' j := fun i => by
    by_cases hi : i < n
    · obtain ⟨j, hj⟩ := H i hi; exact ⟨j, fun _ => hj⟩
    · exact ⟨0, fun h => absurd h hi⟩
  obtain ⟨f, hf⟩ := Classical.axiomOfChoice key
  have inj : ∀ i j, i < n → j < n → f i = f j → i = j := fun i j hi hj e => by
    apply Classical.byContradiction
    intro hne
    have a := hf i hi
    have b := hf j hj
    refine chart_ne h hi hj hne ⟨?_, ?_⟩
    · rw [a.2.1, b.2.1, e]
    · rw [a.2.2, b.2.2, e]
  refine sub_iff.2 fun k hk => ?_
  apply Classical.byContradiction
  intro hno
  have hmiss : ∀ i, i < n → f i ≠ k := fun i hi e => hno ⟨i, hi, by rw [(hf i hi).2.1, e], by rw [(hf i hi).2.2, e]⟩
  have := pigeon (n - 1) n (fun i => if f i < k then f i else f i - 1) (fun i hi => by
    have a := (hf i hi).1
    have b := hmiss i hi
    split <;> omega) (fun i j hi hj e => by
    have a := hmiss i hi
    have b := hmiss j hj
    refine inj i j hi hj ?_
    split at e <;> split at e <;> omega)
  omega
theorem sf_comm (n m : Nat) (X Y X' Y' : Nat → Int) : sfR m X' Y' n X Y = sfR n X Y m X' Y' ∧ sfG m X' Y' n X Y = sfG n X Y m X' Y' := by
  refine ⟨?_, by unfold sfG; rw [Bool.and_comm]⟩
  have key : ∀ (n m : Nat) (X Y X' Y' : Nat → Int), sfR n X Y m X' Y' = true → sfR m X' Y' n X Y = true := fun n m X Y X' Y' h => by
    unfold sfR at h ⊢
    simp only [Bool.and_eq_true, beq_iff_eq] at h ⊢
    obtain ⟨⟨h1, h2⟩, h3, h4⟩ := h
    subst h3
    exact ⟨⟨h2, h1⟩, rfl, sub_comm h1 h4⟩
  rw [Bool.eq_iff_iff]
  exact ⟨key _ _ _ _ _ _, key _ _ _ _ _ _⟩
theorem chL_none {D : Nat → Bool} : ∀ {k : Nat}, (∀ t, t < k → D t = false) → (chL D k).length = 0
  | 0, _ => rfl
  | k + 1, h => by
    unfold chL
    rw [h k (by omega)]
    simp only [Bool.false_eq_true, if_false]
    exact chL_none fun t ht => h t (by omega)
theorem chL_two {D : Nat → Bool} {i j : Nat} (hij : i < j) (hD : ∀ t, D t = true ↔ t = i ∨ t = j) : ∀ k, (chL D k).length = if k ≤ i then 0 else if k ≤ j then 1 else 2
  | 0 => by simp [chL]
  | k + 1 => by
    have ih := chL_two hij hD k
    unfold chL
    by_cases h : D k = true
    · rw [if_pos h, List.length_append, ih, List.length_singleton]
      have hk := (hD k).1 h
      repeat' split
      all_goals omega
    · rw [if_neg h, ih]
      have h1 : k ≠ i := fun e => h ((hD k).2 (.inl e))
      have h2 : k ≠ j := fun e => h ((hD k).2 (.inr e))
      repeat' split
      all_goals omega
theorem sw_changed {n : Nat} {X Y : Nat → Int} (h : chartB n X Y = true) {i j : Nat} (hi : i < n) (hj : j < n) : cpB n X Y n (swX i j X) (swX i j Y) = true ∧ cgN n X Y n (swX i j X) (swX i j Y) = if i = j then 0 else 2 := by
  have h2 := sw_chart h hi hj
  have h3 : cpB n X Y n (swX i j X) (swX i j Y) = true := by unfold cpB; rw [h, h2]; simp
  refine ⟨h3, ?_⟩
  unfold cgN
  rw [if_pos h3]
  have hd : ∀ t, t < n → (difB X Y (swX i j X) (swX i j Y) t = true ↔ i ≠ j ∧ (t = i ∨ t = j)) := fun t ht => by
    unfold difB
    rw [Bool.not_eq_true', ← Bool.not_eq_true, same_iff, sw_at, sw_at]
    constructor
    · intro hn
      by_cases e : t = i ∨ t = j
      · refine ⟨fun e2 => hn ?_, e⟩
        subst e2
        have : swT i i t = t := by
          unfold swT
          repeat' split
          all_goals omega
        rw [this]; exact ⟨rfl, rfl⟩
      · exfalso
        have : swT i j t = t := by unfold swT; rw [if_neg (fun h => e (.inr h)), if_neg (fun h => e (.inl h))]
        rw [this] at hn
        exact hn ⟨rfl, rfl⟩
    · rintro ⟨hne, e⟩
      refine chart_ne h ht (swT_lt hi hj ht) ?_
      unfold swT
      rcases e with rfl | rfl
      · rw [if_neg hne, if_pos rfl]; exact hne
      · rw [if_pos rfl]; omega
  have cong : ∀ (k : Nat) (D D' : Nat → Bool), (∀ t, t < k → D t = D' t) → chL D k = chL D' k := by
    intro k D D' hh
    induction k with
    | zero => rfl
    | succ k ih =>
      unfold chL
      rw [ih (fun t ht => hh t (by omega)), hh k (by omega)]
  by_cases e : i = j
  · rw [if_pos e]
    refine chL_none fun t ht => ?_
    cases hq : difB X Y (swX i j X) (swX i j Y) t with
    | false => rfl
    | true => exact absurd e ((hd t ht).1 hq).1
  · rw [if_neg e]
    have e2 : chL (difB X Y (swX i j X) (swX i j Y)) n = chL (fun t => decide (t = i ∨ t = j)) n := cong n _ _ fun t ht => by
      rw [Bool.eq_iff_iff, hd t ht]
      simp [e]
    rw [e2]
    rcases Nat.lt_or_gt_of_ne e with hlt | hlt
    · rw [chL_two hlt (D := fun t => decide (t = i ∨ t = j)) (by intro t; simp), if_neg (by omega), if_neg (by omega)]
    · rw [chL_two hlt (D := fun t => decide (t = i ∨ t = j)) (by intro t; simp; omega), if_neg (by omega), if_neg (by omega)]
theorem pl_facts {n : Nat} {X Y : Nat → Int} {i x y : Int} (h : plB n X Y i x y = true) : (0 ≤ i ∧ i < (n : Int)) ∧ chartB n (plX i.toNat x X) (plX i.toNat y Y) = true := by
  unfold plB at h
  simp only [Bool.and_eq_true] at h
  obtain ⟨_, h1, h2⟩ := hasI_iff.1 h.1
  exact ⟨⟨h1, by omega⟩, h.2⟩
theorem mc_back {n : Nat} {X Y : Nat → Int} {dx dy : Int} (h : mcB n X Y dx dy = true) : mcB n (fun i => X i + dx) (fun i => Y i + dy) (-dx) (-dy) = true := by
  unfold mcB at h ⊢
  simp only [Bool.and_eq_true] at h ⊢
  obtain ⟨⟨h1, h2⟩, h3⟩ := h
  refine ⟨⟨h3, ?_⟩, ?_⟩
  · unfold dB at h2 ⊢
    simp only [Bool.and_eq_true, inB_iff] at h2 ⊢
    omega
  · rw [← h1]
    exact chartB_cong (fun i _ => by omega) (fun i _ => by omega)
end Go.Proofs.Ytljdhicmcmppgaa
