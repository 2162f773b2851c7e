/-
  Tables over sets of columns, least matchings: plain numbers, no program.
-/
namespace Go.Proofs.Ytadlemadnifohaa

/-- How many of the bits below n are not set. -/
def freeN (u : Nat) : Nat → Nat
  | 0 => 0
  | k + 1 => freeN u k + if u.testBit k then 0 else 1
theorem freeN_le (u : Nat) : ∀ n, freeN u n ≤ n
  | 0 => Nat.le_refl _
  | k + 1 => by have := freeN_le u k; simp only [freeN]; split <;> omega
theorem bit_or (u k j : Nat) : (u ||| 2 ^ k).testBit j = (u.testBit j || decide (k = j)) := by
  rw [Nat.testBit_or, Nat.testBit_two_pow]
theorem freeN_set {u k : Nat} (h : u.testBit k = false) : ∀ n, freeN (u ||| 2 ^ k) n + (if k < n then 1 else 0) = freeN u n
  | 0 => rfl
  | n + 1 => by
    have ih := freeN_set h n
    simp only [freeN, bit_or]
    by_cases e : k = n
    · subst e
      simp [h] at *
      omega
    · simp only [decide_eq_false e, Bool.or_false]
      by_cases hk : k < n
      · rw [if_pos hk] at ih
        rw [if_pos (show k < n + 1 by omega)]
        omega
      · rw [if_neg hk] at ih
        rw [if_neg (show ¬ k < n + 1 by omega)]
        omega
theorem freeN_zero : ∀ n, freeN 0 n = n
  | 0 => rfl
  | n + 1 => by simp [freeN, freeN_zero n]
theorem freeN_ex {u : Nat} : ∀ n, 0 < freeN u n → ∃ k, k < n ∧ u.testBit k = false
  | 0, h => absurd h (by simp [freeN])
  | n + 1, h => by
    cases e : u.testBit n with
    | false => exact ⟨n, by omega, e⟩
    | true =>
      simp [freeN, e] at h
      obtain ⟨k, h1, h2⟩ := freeN_ex n h
      exact ⟨k, by omega, h2⟩
theorem freeN_ex2 {u k : Nat} : ∀ n, 1 < freeN u n → ∃ j, j < n ∧ j ≠ k ∧ u.testBit j = false := by
  intro n h
  cases e : u.testBit k with
  | true =>
    obtain ⟨j, h1, h2⟩ := freeN_ex (u := u) n (by omega)
    exact ⟨j, h1, (fun he => by subst he; rw [e] at h2; cases h2), h2⟩
  | false =>
    have := freeN_set e n
    obtain ⟨j, h1, h2⟩ := freeN_ex (u := u ||| 2 ^ k) n (by split at this <;> omega)
    rw [bit_or] at h2
    simp at h2
    exact ⟨j, h1, fun e => h2.2 e.symm, h2.1⟩
theorem freeN_none {u : Nat} : ∀ n, freeN u n = 0 → ∀ k, k < n → u.testBit k = true
  | 0, _, k, hk => absurd hk (by omega)
  | n + 1, h, k, hk => by
    simp only [freeN] at h
    by_cases e : k = n
    · subst e
      cases e : u.testBit k with
      | true => rfl
      | false => simp [e] at h
    · exact freeN_none n (by omega) k (by omega)
theorem or_lt {u k n : Nat} (hu : u < 2 ^ n) (hk : k < n) : u ||| 2 ^ k < 2 ^ n := Nat.or_lt_two_pow hu (Nat.pow_lt_pow_right (by omega) hk)
/-- The least over the unset bits k < m of g k, begun with T. -/
def minK (T : Int) (u : Nat) (g : Nat → Int) : Nat → Int
  | 0 => T
  | k + 1 => if u.testBit k then minK T u g k else min (minK T u g k) (g k)
theorem minK_congr {T : Int} {u : Nat} {g g' : Nat → Int} : ∀ m, (∀ k, k < m → u.testBit k = false → g k = g' k) → minK T u g m = minK T u g' m
  | 0, _ => rfl
  | m + 1, h => by
    have ih := minK_congr (T := T) m (fun k hk => h k (by omega))
    simp only [minK]
    cases e : u.testBit m with
    | true => simpa using ih
    | false => simp [ih, h m (by omega) e]
theorem minK_le_T {T : Int} {u : Nat} {g : Nat → Int} : ∀ m, minK T u g m ≤ T
  | 0 => Int.le_refl _
  | m + 1 => by have := minK_le_T (T := T) (u := u) (g := g) m; simp only [minK]; split <;> omega
theorem minK_le {T : Int} {u : Nat} {g : Nat → Int} : ∀ m k, k < m → u.testBit k = false → minK T u g m ≤ g k
  | 0, _, h, _ => absurd h (by omega)
  | m + 1, k, h, hk => by
    simp only [minK]
    by_cases e : k = m
    · subst e; rw [hk]; simp; omega
    · have := minK_le (T := T) (g := g) m k (by omega) hk
      split <;> omega
theorem minK_attain {T : Int} {u : Nat} {g : Nat → Int} : ∀ m, minK T u g m = T ∨ ∃ k, k < m ∧ u.testBit k = false ∧ g k = minK T u g m
  | 0 => .inl rfl
  | m + 1 => by
    have ih := minK_attain (T := T) (u := u) (g := g) m
    simp only [minK]
    cases e : u.testBit m with
    | true =>
      simp
      rcases ih with h | ⟨k, h1, h2, h3⟩
      · exact .inl h
      · exact .inr ⟨k, by omega, h2, h3⟩
    | false =>
      simp
      by_cases hc : minK T u g m ≤ g m
      · rw [Int.min_eq_left hc]
        rcases ih with h | ⟨k, h1, h2, h3⟩
        · exact .inl h
        · exact .inr ⟨k, by omega, h2, h3⟩
      · rw [Int.min_eq_right (by omega)]
        exact .inr ⟨m, by omega, e, rfl⟩
theorem minK_ge {T : Int} {u : Nat} {g : Nat → Int} {B : Int} (hT : B ≤ T) : ∀ m, (∀ k, k < m → u.testBit k = false → B ≤ g k) → B ≤ minK T u g m
  | 0, _ => hT
  | m + 1, h => by
    have ih := minK_ge hT m (fun k hk => h k (by omega))
    simp only [minK]
    cases e : u.testBit m with
    | true => simpa using ih
    | false => simp; have := h m (by omega) e; omega
/-- The table: what the last d rows cost at least outside the columns u. -/
def tabG (op : Int → Int → Int) (T : Int) (n : Nat) (C : Nat → Nat → Int) : Nat → Nat → Int
  | 0, _ => 0
  | d + 1, u => minK T u (fun k => op (C (n - (d + 1)) k) (tabG op T n C d (u ||| 2 ^ k))) n
def tabU (op : Int → Int → Int) (T : Int) (n : Nat) (C : Nat → Nat → Int) (u : Nat) : Int := tabG op T n C (freeN u n) u
theorem tabU_step (op : Int → Int → Int) (T : Int) (n : Nat) (C : Nat → Nat → Int) (u : Nat) (h : 0 < freeN u n) :
    tabU op T n C u = minK T u (fun k => op (C (n - freeN u n) k) (tabU op T n C (u ||| 2 ^ k))) n := by
  obtain ⟨d, hd⟩ : ∃ d, freeN u n = d + 1 := ⟨freeN u n - 1, by omega⟩
  unfold tabU
  rw [hd]
  show minK _ _ _ _ = _
  refine minK_congr n (fun k hk hu => ?_)
  have := freeN_set hu n
  rw [if_pos hk] at this
  rw [show freeN (u ||| 2 ^ k) n = d by omega]
theorem tabU_full (op : Int → Int → Int) (T : Int) (n : Nat) (C : Nat → Nat → Int) (u : Nat) (h : freeN u n = 0) : tabU op T n C u = 0 := by
  unfold tabU; rw [h]; rfl
theorem tabG_nonneg {T : Int} {n : Nat} {C : Nat → Nat → Int} (hT : 0 ≤ T) (hC : ∀ i k, i < n → k < n → 0 ≤ C i k) : ∀ d u, d ≤ n → 0 ≤ tabG (· + ·) T n C d u
  | 0, _, _ => Int.le_refl _
  | d + 1, u, hd => by
    refine minK_ge hT n (fun k hk _ => ?_)
    have := tabG_nonneg hT hC d (u ||| 2 ^ k) (by omega)
    have := hC (n - (d + 1)) k (by omega) hk
    show 0 ≤ _ + _
    omega
theorem tabU_nonneg {T : Int} {n : Nat} {C : Nat → Nat → Int} (hT : 0 ≤ T) (hC : ∀ i k, i < n → k < n → 0 ≤ C i k) (u : Nat) : 0 ≤ tabU (· + ·) T n C u :=
  tabG_nonneg hT hC _ u (freeN_le _ _)
theorem min_minK {B T T' : Int} (hT : min T B = T') {u : Nat} {g g' : Nat → Int} : ∀ m, (∀ k, k < m → u.testBit k = false → min (g k) B = g' k ∨ (min (g k) B = min (g' k) B)) → min (minK T u g m) B = min (minK T' u g' m) B
  | 0, _ => by simp only [minK]; omega
  | m + 1, h => by
    have ih := min_minK hT m (fun k hk => h k (by omega))
    simp only [minK]
    cases e : u.testBit m with
    | true => simpa using ih
    | false =>
      simp
      have := h m (by omega) e
      rcases this with h | h <;> omega
/-- Two tables of costs that agree below B, agree below B. -/
theorem tab_agree {B T : Int} {n : Nat} {C C' : Nat → Nat → Int} (hT : B ≤ T) (hB : 0 ≤ B) (h0 : ∀ i k, i < n → k < n → 0 ≤ C i k) (hC : ∀ i k, i < n → k < n → min (C i k) B = C' i k) :
    ∀ d u, d ≤ n → min (tabG (· + ·) T n C d u) B = tabG (· + ·) B n C' d u
  | 0, u, _ => by simp only [tabG]; omega
  | d + 1, u, hd => by
    have e : min (tabG (· + ·) B n C' (d + 1) u) B = tabG (· + ·) B n C' (d + 1) u := Int.min_eq_left (minK_le_T n)
    rw [← e]
    refine min_minK (by omega) n (fun k hk _ => .inr ?_)
    have ih := tab_agree hT hB h0 hC d (u ||| 2 ^ k) (by omega)
    have a := h0 (n - (d + 1)) k (by omega) hk
    have b := hC (n - (d + 1)) k (by omega) hk
    have c := tabG_nonneg (T := T) (by omega) h0 d (u ||| 2 ^ k) (by omega)
    show min (C (n - (d + 1)) k + tabG (· + ·) T n C d (u ||| 2 ^ k)) B = min (C' (n - (d + 1)) k + tabG (· + ·) B n C' d (u ||| 2 ^ k)) B
    omega
/-- What a choice of columns shows. -/
theorem tabU_le {T : Int} {n : Nat} {C : Nat → Nat → Int} {u k : Nat} (hk : k < n) (hu : u.testBit k = false) : tabU (· + ·) T n C u ≤ C (n - freeN u n) k + tabU (· + ·) T n C (u ||| 2 ^ k) := by
  have h1 := freeN_set hu n
  rw [if_pos hk] at h1
  rw [tabU_step _ _ _ _ _ (by omega)]
  exact minK_le n k hk hu
/-- Ordinary costs: at most M a row. -/
theorem tabU_bd {T : Int} {n : Nat} {C : Nat → Nat → Int} {M : Int} (hC : ∀ i k, i < n → k < n → C i k ≤ M) : ∀ d u, freeN u n = d → tabU (· + ·) T n C u ≤ d * M
  | 0, u, h => by rw [tabU_full _ _ _ _ _ h]; simp
  | d + 1, u, h => by
    obtain ⟨k, hk, hu⟩ := freeN_ex (u := u) n (by omega)
    have h1 := freeN_set hu n
    rw [if_pos hk] at h1
    have ih := tabU_bd (T := T) hC d (u ||| 2 ^ k) (by omega)
    have h2 := tabU_le (T := T) (C := C) hk hu
    have h3 := hC (n - freeN u n) k (by omega) hk
    rw [Int.natCast_add, Int.add_mul]
    omega
/-- One row has but one ordinary cost, at k. -/
theorem tabU_bd1 {T : Int} {n : Nat} {C : Nat → Nat → Int} {M : Int} {i k : Nat} (hin : i < n) (hkn : k < n) (hC : ∀ a b, a < n → b < n → (a = i → b = k) → C a b ≤ M) :
    ∀ d u, freeN u n = d → (n ≤ i + d → u.testBit k = false) → tabU (· + ·) T n C u ≤ d * M
  | 0, u, h, _ => by rw [tabU_full _ _ _ _ _ h]; simp
  | d + 1, u, h, hc => by
    have hle := freeN_le u n
    have pick : ∃ j, j < n ∧ u.testBit j = false ∧ (n - (d + 1) = i → j = k) ∧ (n ≤ i + d → j ≠ k) := by
      by_cases e : n - (d + 1) = i
      · exact ⟨k, hkn, hc (by omega), fun _ => rfl, fun hh => by omega⟩
      · by_cases e2 : n ≤ i + d
        · obtain ⟨j, h1, h2, h3⟩ := freeN_ex2 (k := k) n (show 1 < freeN u n by omega)
          exact ⟨j, h1, h3, fun hh => absurd hh e, fun _ => h2⟩
        · obtain ⟨j, h1, h2⟩ := freeN_ex (u := u) n (by omega)
          exact ⟨j, h1, h2, fun hh => absurd hh e, fun hh => absurd hh e2⟩
    obtain ⟨j, hj, hu, p1, p2⟩ := pick
    have h1 := freeN_set hu n
    rw [if_pos hj] at h1
    have ih := tabU_bd1 (T := T) hin hkn hC d (u ||| 2 ^ j) (by omega) (fun hh => by rw [bit_or, hc (by omega), decide_eq_false (p2 hh)]; rfl)
    have h2 := tabU_le (T := T) (C := C) hj hu
    have h3 := hC (n - freeN u n) j (by omega) hj (fun hh => p1 (by omega))
    rw [Int.natCast_add, Int.add_mul]
    omega
/-- All costs but one are ordinary. -/
theorem tabU_bd2 {T : Int} {n : Nat} {C : Nat → Nat → Int} {M : Int} {i k : Nat} (hin : i < n) (hkn : k < n) (hn : 2 ≤ n) (hC : ∀ a b, a < n → b < n → (a = i → b ≠ k) → C a b ≤ M) :
    ∀ d u, freeN u n = d → (i + 1 = n → d = 1 → u.testBit k = true) → tabU (· + ·) T n C u ≤ d * M
  | 0, u, h, _ => by rw [tabU_full _ _ _ _ _ h]; simp
  | d + 1, u, h, hc => by
    have hle := freeN_le u n
    have pick : ∃ j, j < n ∧ u.testBit j = false ∧ (n - (d + 1) = i → j ≠ k) ∧ (i + 1 = n → d = 1 → (u ||| 2 ^ j).testBit k = true) := by
      by_cases e : n - (d + 1) = i
      · by_cases e2 : d = 0
        · obtain ⟨j, h1, h2⟩ := freeN_ex (u := u) n (by omega)
          exact ⟨j, h1, h2, (fun _ hh => by subst hh; rw [hc (by omega) (by omega)] at h2; cases h2), fun _ hh => by omega⟩
        · obtain ⟨j, h1, h2, h3⟩ := freeN_ex2 (k := k) n (show 1 < freeN u n by omega)
          exact ⟨j, h1, h3, fun _ => h2, fun _ _ => by omega⟩
      · cases e3 : u.testBit k with
        | false => exact ⟨k, hkn, e3, fun hh => absurd hh e, fun _ _ => by rw [bit_or]; simp⟩
        | true =>
          obtain ⟨j, h1, h2⟩ := freeN_ex (u := u) n (by omega)
          exact ⟨j, h1, h2, fun hh => absurd hh e, fun _ _ => by rw [bit_or, e3]; rfl⟩
    obtain ⟨j, hj, hu, p1, p2⟩ := pick
    have h1 := freeN_set hu n
    rw [if_pos hj] at h1
    have ih := tabU_bd2 (T := T) hin hkn hn hC d (u ||| 2 ^ j) (by omega) p2
    have h2 := tabU_le (T := T) (C := C) hj hu
    have h3 := hC (n - freeN u n) j (by omega) hj (fun hh => p1 (by omega))
    rw [Int.natCast_add, Int.add_mul]
    omega
/-- The first k from s on with p k, or s + f. -/
def findN (p : Nat → Bool) : Nat → Nat → Nat
  | 0, s => s
  | f + 1, s => if p s then s else findN p f (s + 1)
theorem findN_eq {p : Nat → Bool} {k : Nat} (hk : p k = true) : ∀ f s, s ≤ k → k < s + f → (∀ j, s ≤ j → j < k → p j = false) → findN p f s = k
  | 0, s, h1, h2, _ => by omega
  | f + 1, s, h1, h2, h3 => by
    simp only [findN]
    by_cases e : s = k
    · subst e; rw [hk]; rfl
    · rw [h3 s (Nat.le_refl _) (by omega)]
      simp
      exact findN_eq hk f (s + 1) (by omega) (by omega) (fun j h4 h5 => h3 j (by omega) h5)
theorem findN_ex {p : Nat → Bool} : ∀ f s k, s ≤ k → k < s + f → p k = true → findN p f s < s + f ∧ p (findN p f s) = true ∧ ∀ j, s ≤ j → j < findN p f s → p j = false
  | 0, s, k, h1, h2, _ => by omega
  | f + 1, s, k, h1, h2, h3 => by
    simp only [findN]
    cases e : p s with
    | true => simp; exact ⟨e, fun j h4 h5 => by omega⟩
    | false =>
      simp
      have hsk : s ≠ k := fun hh => by subst hh; rw [e] at h3; cases h3
      obtain ⟨g1, g2, g3⟩ := findN_ex f (s + 1) k (by omega) (by omega) h3
      refine ⟨by omega, g2, fun j h4 h5 => ?_⟩
      by_cases hj : s = j
      · subst hj; exact e
      · exact g3 j (by omega) h5
theorem findN_congr {p p' : Nat → Bool} : ∀ f s, (∀ k, s ≤ k → k < s + f → p k = p' k) → findN p f s = findN p' f s
  | 0, _, _ => rfl
  | f + 1, s, h => by
    simp only [findN]
    rw [h s (Nat.le_refl _) (by omega), findN_congr f (s + 1) (fun k h1 h2 => h k (by omega) (by omega))]
/-- May row r take column k, when the columns u are used? -/
def okM (C : Nat → Nat → Int) (F : Nat → Int) (r u k : Nat) : Bool := !u.testBit k && (C r k + F (u ||| 2 ^ k) == F u)
def usedM (n : Nat) (C : Nat → Nat → Int) (F : Nat → Int) : Nat → Nat
  | 0 => 0
  | r + 1 => usedM n C F r ||| 2 ^ findN (okM C F r (usedM n C F r)) n 0
def placeM (n : Nat) (C : Nat → Nat → Int) (F : Nat → Int) (r : Nat) : Nat := findN (okM C F r (usedM n C F r)) n 0
def sumC (C : Nat → Nat → Int) (P : Nat → Nat) : Nat → Int
  | 0 => 0
  | r + 1 => sumC C P r + C r (P r)
theorem placeM_ok {T : Int} {n : Nat} {C : Nat → Nat → Int} (hT : 0 ≤ T) (hC : ∀ i k, i < n → k < n → 0 ≤ C i k) (h0 : tabU (· + ·) T n C 0 < T) :
    ∀ r, r ≤ n → usedM n C (tabU (· + ·) T n C) r < 2 ^ n ∧ freeN (usedM n C (tabU (· + ·) T n C) r) n = n - r ∧ tabU (· + ·) T n C (usedM n C (tabU (· + ·) T n C) r) < T ∧
      sumC C (placeM n C (tabU (· + ·) T n C)) r + tabU (· + ·) T n C (usedM n C (tabU (· + ·) T n C) r) = tabU (· + ·) T n C 0 ∧
      (r < n → placeM n C (tabU (· + ·) T n C) r < n ∧ okM C (tabU (· + ·) T n C) r (usedM n C (tabU (· + ·) T n C) r) (placeM n C (tabU (· + ·) T n C) r) = true ∧
        ∀ j, j < placeM n C (tabU (· + ·) T n C) r → okM C (tabU (· + ·) T n C) r (usedM n C (tabU (· + ·) T n C) r) j = false) := by
  have step : ∀ r, r < n → usedM n C (tabU (· + ·) T n C) r < 2 ^ n → freeN (usedM n C (tabU (· + ·) T n C) r) n = n - r → tabU (· + ·) T n C (usedM n C (tabU (· + ·) T n C) r) < T →
      placeM n C (tabU (· + ·) T n C) r < n ∧ okM C (tabU (· + ·) T n C) r (usedM n C (tabU (· + ·) T n C) r) (placeM n C (tabU (· + ·) T n C) r) = true ∧
        ∀ j, j < placeM n C (tabU (· + ·) T n C) r → okM C (tabU (· + ·) T n C) r (usedM n C (tabU (· + ·) T n C) r) j = false := by
    intro r hr _ h2 h3
    have hs := tabU_step (· + ·) T n C (usedM n C (tabU (· + ·) T n C) r) (by omega)
    rcases minK_attain (T := T) (u := usedM n C (tabU (· + ·) T n C) r) (g := fun k => C (n - freeN (usedM n C (tabU (· + ·) T n C) r) n) k + tabU (· + ·) T n C (usedM n C (tabU (· + ·) T n C) r ||| 2 ^ k)) n with h | ⟨k, hk, hu, he⟩
    · rw [h] at hs; omega
    · rw [← hs] at he
      rw [show n - freeN (usedM n C (tabU (· + ·) T n C) r) n = r by omega] at he
      have := findN_ex (p := okM C (tabU (· + ·) T n C) r (usedM n C (tabU (· + ·) T n C) r)) n 0 k (by omega) (by omega) (by unfold okM; rw [hu]; simp; exact he)
      refine ⟨by have := this.1; unfold placeM; omega, this.2.1, fun j hj => this.2.2 j (by omega) hj⟩
  intro r
  induction r with
  | zero =>
    intro _
    refine ⟨Nat.two_pow_pos n, by simp [usedM, freeN_zero], h0, by simp [sumC, usedM], fun hn => step 0 hn (Nat.two_pow_pos n) (by simp [usedM, freeN_zero]) h0⟩
  | succ r ih =>
    intro hr
    obtain ⟨a1, a2, a3, a4, a5⟩ := ih (by omega)
    obtain ⟨b1, b2, _⟩ := a5 (by omega)
    have b2' := b2
    unfold okM at b2
    simp only [Bool.and_eq_true, Bool.not_eq_true', beq_iff_eq] at b2
    have c1 : usedM n C (tabU (· + ·) T n C) (r + 1) < 2 ^ n := or_lt a1 b1
    have c2 : freeN (usedM n C (tabU (· + ·) T n C) (r + 1)) n = n - (r + 1) := by
      have := freeN_set b2.1 n
      rw [if_pos b1] at this
      show freeN (_ ||| 2 ^ placeM n C _ r) n = _
      omega
    have c3 : tabU (· + ·) T n C (usedM n C (tabU (· + ·) T n C) (r + 1)) < T := by
      have := hC r (placeM n C (tabU (· + ·) T n C) r) (by omega) b1
      show tabU _ _ _ _ (_ ||| 2 ^ placeM n C _ r) < T
      omega
    refine ⟨c1, c2, c3, ?_, fun h => step (r + 1) h c1 c2 c3⟩
    show sumC _ _ r + C r (placeM n C _ r) + tabU _ _ _ _ (_ ||| 2 ^ placeM n C _ r) = _
    omega
end Go.Proofs.Ytadlemadnifohaa
