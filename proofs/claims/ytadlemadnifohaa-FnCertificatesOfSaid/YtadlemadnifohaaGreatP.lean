import Derived.Test.YtadlemadnifohaaLeastM
/-
  Matchings whose greatest cost is least: plain numbers, no program.
-/
namespace Go.Proofs.Ytadlemadnifohaa

/-- Marks: 0 where a cost is at most m. -/
def mkG (F : Nat → Nat → Int) (m : Int) (i k : Nat) : Int := if F i k ≤ m then 0 else 1
/-- The least greatest cost of the rows behind as many as there are columns in u. -/
def bgU (n : Nat) (F : Nat → Nat → Int) (u : Nat) : Int := tabU max 1099511627776 n F u
def lgV (n : Nat) (F : Nat → Nat → Int) : Int := bgU n F 0
def lgP (n : Nat) (F : Nat → Nat → Int) : Nat → Int := lmP n (mkG F (lgV n F))
theorem mkG_rng (F : Nat → Nat → Int) (m : Int) (i k : Nat) : 0 ≤ mkG F m i k ∧ mkG F m i k ≤ 1 := by unfold mkG; split <;> omega
theorem mkG_rng' (F : Nat → Nat → Int) (m : Int) (n : Nat) : ∀ i k, i < n → k < n → 0 ≤ mkG F m i k ∧ mkG F m i k ≤ 2100000 := fun i k _ _ => by have := mkG_rng F m i k; omega
theorem mkG_yes {F : Nat → Nat → Int} {m : Int} {i k : Nat} (h : F i k ≤ m) : mkG F m i k = 0 := if_pos h
theorem mkG_no {F : Nat → Nat → Int} {m : Int} {i k : Nat} (h : ¬ F i k ≤ m) : mkG F m i k = 1 := if_neg h
theorem minK_iff {T x : Int} {u : Nat} {g : Nat → Int} (m : Nat) : minK T u g m ≤ x ↔ T ≤ x ∨ ∃ k, k < m ∧ u.testBit k = false ∧ g k ≤ x := by
  constructor
  · intro h
    rcases minK_attain (T := T) (u := u) (g := g) m with e | ⟨k, h1, h2, h3⟩
    · exact .inl (by omega)
    · exact .inr ⟨k, h1, h2, by omega⟩
  · rintro (h | ⟨k, h1, h2, h3⟩)
    · have := minK_le_T (T := T) (u := u) (g := g) m; omega
    · have := minK_le (T := T) (g := g) m k h1 h2; omega
theorem mark_iff {T T' m : Int} {n : Nat} {F : Nat → Nat → Int} (h0 : 0 ≤ m) (hT : m < T) (hT' : 1 ≤ T') : ∀ d u, d ≤ n → (tabG max T n F d u ≤ m ↔ tabG (· + ·) T' n (mkG F m) d u ≤ 0)
  | 0, u, _ => by simp only [tabG]; omega
  | d + 1, u, hd => by
    have nn := fun k => tabG_nonneg (T := T') (C := mkG F m) (n := n) (by omega) (fun i k _ _ => (mkG_rng F m i k).1) d (u ||| 2 ^ k) (by omega)
    have ih := fun k => mark_iff (F := F) h0 hT hT' d (u ||| 2 ^ k) (show d ≤ n by omega)
    show minK T u (fun k => max (F (n - (d + 1)) k) (tabG max T n F d (u ||| 2 ^ k))) n ≤ m ↔ minK T' u (fun k => mkG F m (n - (d + 1)) k + tabG (· + ·) T' n (mkG F m) d (u ||| 2 ^ k)) n ≤ 0
    rw [minK_iff, minK_iff]
    constructor
    · rintro (h | ⟨k, h1, h2, h3⟩)
      · omega
      · have a := (ih k).1 (by omega)
        have b := mkG_yes (F := F) (m := m) (i := n - (d + 1)) (k := k) (by omega)
        exact .inr ⟨k, h1, h2, by omega⟩
    · rintro (h | ⟨k, h1, h2, h3⟩)
      · omega
      · have b := (mkG_rng F m (n - (d + 1)) k).1
        have c := nn k
        have a := (ih k).2 (by omega)
        have e : F (n - (d + 1)) k ≤ m := by
          by_cases e : F (n - (d + 1)) k ≤ m
          · exact e
          · have := mkG_no e; omega
        exact .inr ⟨k, h1, h2, by omega⟩
theorem bgU_iff {m : Int} {n : Nat} {F : Nat → Nat → Int} (h0 : 0 ≤ m) (hT : m ≤ 2100000) (u : Nat) : bgU n F u ≤ m ↔ tabU (· + ·) 1000000000 n (mkG F m) u ≤ 0 :=
  mark_iff h0 (by omega) (by omega) _ u (freeN_le u n)
section
variable {n : Nat} {F : Nat → Nat → Int}
theorem tabG_entry {T M : Int} (hM : M < T) (hF : ∀ i k, i < n → k < n → 0 ≤ F i k ∧ F i k ≤ M) : ∀ d u, d + 1 ≤ n → tabG max T n F (d + 1) u = T ∨ ∃ i k, i < n ∧ k < n ∧ F i k = tabG max T n F (d + 1) u
  | 0, u, hd => by
    show minK T u (fun k => max (F (n - 1) k) 0) n = T ∨ ∃ i k, i < n ∧ k < n ∧ F i k = minK T u (fun k => max (F (n - 1) k) 0) n
    rcases minK_attain (T := T) (u := u) (g := fun k => max (F (n - 1) k) 0) n with e | ⟨k, h1, _, h3⟩
    · exact .inl e
    · have := hF (n - 1) k (by omega) h1
      exact .inr ⟨n - 1, k, by omega, h1, by omega⟩
  | d + 1, u, hd => by
    show minK T u (fun k => max (F (n - (d + 2)) k) (tabG max T n F (d + 1) (u ||| 2 ^ k))) n = T ∨ ∃ i k, i < n ∧ k < n ∧ F i k = minK T u (fun k => max (F (n - (d + 2)) k) (tabG max T n F (d + 1) (u ||| 2 ^ k))) n
    rcases minK_attain (T := T) (u := u) (g := fun k => max (F (n - (d + 2)) k) (tabG max T n F (d + 1) (u ||| 2 ^ k))) n with e | ⟨k, h1, _, h3⟩
    · exact .inl e
    · have hb := hF (n - (d + 2)) k (by omega) h1
      have ih := tabG_entry hM hF d (u ||| 2 ^ k) (by omega)
      by_cases hc : tabG max T n F (d + 1) (u ||| 2 ^ k) ≤ F (n - (d + 2)) k
      · clear ih; exact .inr ⟨n - (d + 2), k, by omega, h1, by omega⟩
      · rcases ih with ih | ⟨i, j, hi, hj, e⟩
        · exact .inl (by omega)
        · exact .inr ⟨i, j, hi, hj, by omega⟩
theorem bgU_rng (h1 : 1 ≤ n) (hF : ∀ i k, i < n → k < n → 0 ≤ F i k ∧ F i k ≤ 2100000) (u : Nat) : 0 ≤ bgU n F u ∧ bgU n F u ≤ 2100000 := by
  constructor
  · unfold bgU tabU
    rcases Nat.eq_zero_or_pos (freeN u n) with h | h
    · rw [h]; exact Int.le_refl _
    · obtain ⟨d, hd⟩ : ∃ d, freeN u n = d + 1 := ⟨freeN u n - 1, by omega⟩
      have hl := freeN_le u n
      rw [hd]
      rcases tabG_entry (T := 1099511627776) (M := 2100000) (by omega) hF d u (by omega) with e | ⟨i, k, hi, hk, e⟩
      · rw [e]; omega
      · rw [← e]; exact (hF i k hi hk).1
  · refine (bgU_iff (by omega) (by omega) u).2 ?_
    have := tabU_bd (T := 1000000000) (n := n) (C := mkG F 2100000) (M := 0) (fun i k hi hk => by rw [mkG_yes (hF i k hi hk).2]; exact Int.le_refl _) _ u rfl
    rw [Int.mul_zero] at this
    exact this
theorem lgV_entry (h1 : 1 ≤ n) (hF : ∀ i k, i < n → k < n → 0 ≤ F i k ∧ F i k ≤ 2100000) : ∃ i k, i < n ∧ k < n ∧ F i k = lgV n F := by
  have hr := (bgU_rng h1 hF 0).2
  unfold lgV bgU tabU at *
  rw [freeN_zero] at *
  obtain ⟨d, rfl⟩ : ∃ d, n = d + 1 := ⟨n - 1, by omega⟩
  rcases tabG_entry (T := 1099511627776) (M := 2100000) (by omega) hF d 0 (by omega) with e | h
  · omega
  · exact h
/-- There is a matching with no cost above m. -/
theorem lgV_iff (h2 : n ≤ 12) {m : Int} (h0 : 0 ≤ m) (hT : m ≤ 2100000) : 0 < lmS n (mkG F m) ↔ ¬ lgV n F ≤ m := by
  have := bgU_iff (F := F) (n := n) h0 hT 0
  unfold lmS lgV
  omega
/-- Row r's place in the first such matching. -/
structure LgAt (n : Nat) (F : Nat → Nat → Int) (r U k : Nat) : Prop where
  un : U < 2 ^ n
  kn : k < n
  bit : U.testBit k = false
  le : F r k ≤ lgV n F ∧ bgU n F (U ||| 2 ^ k) ≤ lgV n F
  no : ∀ j, j < k → U.testBit j = true ∨ ¬ (F r j ≤ lgV n F ∧ bgU n F (U ||| 2 ^ j) ≤ lgV n F)
def lgU (n : Nat) (F : Nat → Nat → Int) (r : Nat) : Nat := usedM n (mkG F (lgV n F)) (tabU (· + ·) 1000000000 n (mkG F (lgV n F))) r
def lgN (n : Nat) (F : Nat → Nat → Int) (r : Nat) : Nat := placeM n (mkG F (lgV n F)) (tabU (· + ·) 1000000000 n (mkG F (lgV n F))) r
theorem lgP_lgN (r : Nat) : lgP n F r = (lgN n F r : Nat) := rfl
theorem lgU_zero : lgU n F 0 = 0 := rfl
theorem lgU_succ (r : Nat) : lgU n F (r + 1) = lgU n F r ||| 2 ^ lgN n F r := rfl
theorem lgAt (h1 : 1 ≤ n) (h2 : n ≤ 12) (hF : ∀ i k, i < n → k < n → 0 ≤ F i k ∧ F i k ≤ 2100000) {r : Nat} (hr : r < n) : LgAt n F r (lgU n F r) (lgN n F r) := by
  have hv := bgU_rng h1 hF 0
  have hv0 : 0 ≤ lgV n F := hv.1
  have hv1 : lgV n F ≤ 2100000 := hv.2
  have h0 : tabU (· + ·) 1000000000 n (mkG F (lgV n F)) 0 ≤ 0 := (bgU_iff hv0 hv1 0).1 (Int.le_refl _)
  have nnT := fun u => tabU_nonneg (T := 1000000000) (n := n) (C := mkG F (lgV n F)) (by omega) (fun i k _ _ => (mkG_rng F _ i k).1) u
  obtain ⟨a1, _, _, a4, a5⟩ := placeM_ok (T := 1000000000) (n := n) (C := mkG F (lgV n F)) (by omega) (fun i k _ _ => (mkG_rng F _ i k).1) (by omega) r (by omega)
  obtain ⟨b1, b2, b3⟩ := a5 hr
  have hsum : ∀ P q, 0 ≤ sumC (mkG F (lgV n F)) P q := fun P q => by
    induction q with
    | zero => exact Int.le_refl _
    | succ q ih => have := (mkG_rng F (lgV n F) q (P q)).1; simp only [sumC]; omega
  have hu0 : tabU (· + ·) 1000000000 n (mkG F (lgV n F)) (lgU n F r) = 0 := by
    have a := hsum (placeM n (mkG F (lgV n F)) (tabU (· + ·) 1000000000 n (mkG F (lgV n F)))) r
    have b := nnT (lgU n F r)
    unfold lgU at *
    omega
  have key : ∀ j, okM (mkG F (lgV n F)) (tabU (· + ·) 1000000000 n (mkG F (lgV n F))) r (lgU n F r) j = true ↔ ((lgU n F r).testBit j = false ∧ F r j ≤ lgV n F ∧ bgU n F (lgU n F r ||| 2 ^ j) ≤ lgV n F) := fun j => by
    unfold okM
    rw [hu0]
    simp only [Bool.and_eq_true, Bool.not_eq_true', beq_iff_eq]
    have a := bgU_iff (F := F) (n := n) hv0 hv1 (lgU n F r ||| 2 ^ j)
    have b := nnT (lgU n F r ||| 2 ^ j)
    have c := mkG_rng F (lgV n F) r j
    have d : mkG F (lgV n F) r j = 0 ↔ F r j ≤ lgV n F := ⟨fun e => by
      by_cases hq : F r j ≤ lgV n F
      · exact hq
      · have := mkG_no hq; omega, fun e => mkG_yes e⟩
    constructor
    · rintro ⟨x, y⟩
      exact ⟨x, d.1 (by omega), a.2 (by omega)⟩
    · rintro ⟨x, y, z⟩
      have := d.2 y
      have := a.1 z
      exact ⟨x, by omega⟩
  obtain ⟨c1, c2⟩ := (key (lgN n F r)).1 b2
  refine ⟨a1, b1, c1, c2, fun j hj => ?_⟩
  have hj' := b3 j hj
  cases e : (lgU n F r).testBit j with
  | true => exact .inl rfl
  | false =>
    refine .inr (fun hh => ?_)
    have := (key j).2 ⟨e, hh⟩
    unfold lgU at this
    rw [hj'] at this
    cases this
end
end Go.Proofs.Ytadlemadnifohaa
