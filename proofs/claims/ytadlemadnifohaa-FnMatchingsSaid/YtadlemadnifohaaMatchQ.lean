import Derived.Test.YtadlemadnifohaaMatchP
/-
  Certificates of least matchings: plain numbers, no program.
-/
namespace Go.Proofs.Ytadlemadnifohaa

def sumN (h : Nat → Int) : Nat → Int
  | 0 => 0
  | k + 1 => sumN h k + h k
theorem sumN_congr {h h' : Nat → Int} : ∀ n, (∀ k, k < n → h k = h' k) → sumN h n = sumN h' n
  | 0, _ => rfl
  | n + 1, e => by simp only [sumN]; rw [sumN_congr n (fun k hk => e k (by omega)), e n (by omega)]
theorem sumN_le {h h' : Nat → Int} : ∀ n, (∀ k, k < n → h k ≤ h' k) → sumN h n ≤ sumN h' n
  | 0, _ => Int.le_refl _
  | n + 1, e => by have := sumN_le n (fun k hk => e k (by omega)); have := e n (by omega); simp only [sumN]; omega
theorem sumN_upd {h : Nat → Int} {a : Nat} {v : Int} : ∀ n, sumN (fun j => if j = a then v else h j) n = sumN h n + (if a < n then v - h a else 0)
  | 0 => by simp [sumN]
  | n + 1 => by
    have ih := sumN_upd (h := h) (a := a) (v := v) n
    simp only [sumN]
    rw [ih]
    by_cases e : n = a
    · subst e
      rw [if_pos rfl, if_neg (by omega), if_pos (by omega)]
      omega
    · rw [if_neg e]
      by_cases ha : a < n
      · rw [if_pos ha, if_pos (by omega)]; omega
      · rw [if_neg ha, if_neg (by omega)]; omega
/-- A permutation of the numbers below n. -/
def Perm (n : Nat) (σ : Nat → Nat) : Prop := (∀ j, j < n → σ j < n) ∧ ∀ i j, i < n → j < n → σ i = σ j → i = j
theorem Perm.id (n : Nat) : Perm n (fun j => j) := ⟨fun _ h => h, fun _ _ _ _ h => h⟩
theorem Perm.comp {n : Nat} {σ τ : Nat → Nat} (h : Perm n σ) (g : Perm n τ) : Perm n (fun j => σ (τ j)) :=
  ⟨fun j hj => h.1 _ (g.1 j hj), fun i j hi hj e => g.2 i j hi hj (h.2 _ _ (g.1 i hi) (g.1 j hj) e)⟩
/-- The weight of a way. -/
def pw (W : Nat → Nat → Int) : Nat → List Nat → Nat → Int
  | a, [], b => W a b
  | a, c :: l, b => W a c + pw W c l b
theorem pw_split (W : Nat → Nat → Int) (c b : Nat) (l2 : List Nat) : ∀ (l1 : List Nat) (a : Nat), pw W a (l1 ++ c :: l2) b = pw W a l1 c + pw W c l2 b
  | [], a => rfl
  | d :: l1, a => by
    have := pw_split W c b l2 l1 d
    simp only [List.cons_append, pw]
    rw [this]; omega
/-- No closed way has a weight below 0. -/
def NoNeg (n : Nat) (W : Nat → Nat → Int) : Prop := ∀ a l, a < n → (∀ x ∈ l, x < n) → 0 ≤ pw W a l a
theorem least_ex (f : Nat → Int) : ∀ n, 0 < n → ∃ j, j < n ∧ ∀ i, i < n → f j ≤ f i
  | 0, h => absurd h (by omega)
  | n + 1, _ => by
    rcases Nat.eq_zero_or_pos n with h | h
    · subst h; exact ⟨0, by omega, fun i hi => by rw [show i = 0 by omega]; exact Int.le_refl _⟩
    · obtain ⟨j, hj, hl⟩ := least_ex f n h
      by_cases hc : f j ≤ f n
      · exact ⟨j, by omega, fun i hi => by by_cases e : i = n; · subst e; exact hc
                                           · exact hl i (by omega)⟩
      · exact ⟨n, by omega, fun i hi => by by_cases e : i = n; · subst e; exact Int.le_refl _
                                           · have := hl i (by omega); omega⟩
theorem potentials : ∀ (n : Nat) (W : Nat → Nat → Int), NoNeg n W → ∃ y : Nat → Int, ∀ j k, j < n → k < n → y k ≤ y j + W j k
  | 0, _, _ => ⟨fun _ => 0, fun j k hj _ => absurd hj (by omega)⟩
  | n + 1, W, h => by
    have expand : ∀ (l : List Nat) (a b : Nat), a < n → b < n → (∀ x ∈ l, x < n) → ∃ l', (∀ x ∈ l', x < n + 1) ∧ pw W a l' b = pw (fun j k => min (W j k) (W j n + W n k)) a l b := by
      intro l
      induction l with
      | nil =>
        intro a b ha hb _
        by_cases hc : W a b ≤ W a n + W n b
        · exact ⟨[], by simp, by simp only [pw]; omega⟩
        · exact ⟨[n], by simp, by simp only [pw]; omega⟩
      | cons c l ih =>
        intro a b ha hb hl
        obtain ⟨l', h1, h2⟩ := ih c b (hl c (by simp)) hb (fun x hx => hl x (by simp [hx]))
        have hcn := hl c (by simp)
        by_cases hc : W a c ≤ W a n + W n c
        · refine ⟨c :: l', fun x hx => ?_, by simp only [pw]; rw [h2]; omega⟩
          rcases List.mem_cons.1 hx with rfl | hx
          · omega
          · exact h1 x hx
        · refine ⟨n :: c :: l', fun x hx => ?_, by simp only [pw]; rw [h2]; omega⟩
          rcases List.mem_cons.1 hx with rfl | hx
          · omega
          · rcases List.mem_cons.1 hx with rfl | hx
            · omega
            · exact h1 x hx
    obtain ⟨y, hy⟩ := potentials n (fun j k => min (W j k) (W j n + W n k)) (fun a l ha hl => by
      obtain ⟨l', h1, h2⟩ := expand l a a ha ha hl
      rw [← h2]
      exact h a l' (by omega) h1)
    have hnn : 0 ≤ W n n := h n [] (by omega) (by simp)
    obtain ⟨Y, hY1, hY2⟩ : ∃ Y : Int, (∀ j, j < n → Y ≤ y j + W j n) ∧ (∀ k, k < n → y k ≤ Y + W n k) := by
      rcases Nat.eq_zero_or_pos n with h0 | h0
      · exact ⟨0, fun j hj => by omega, fun j hj => by omega⟩
      · obtain ⟨j, hj, hl⟩ := least_ex (fun j => y j + W j n) n h0
        refine ⟨y j + W j n, hl, fun k hk => ?_⟩
        have := hy j k hj hk
        omega
    refine ⟨fun k => if k = n then Y else y k, fun j k hj hk => ?_⟩
    by_cases e : k = n
    · subst e
      by_cases e2 : j = k
      · subst e2; simp; omega
      · simp [e2]; exact hY1 j (by omega)
    · by_cases e2 : j = n
      · subst e2; simp [e]; exact hY2 k (by omega)
      · simp [e, e2]
        have := hy j k (by omega) (by omega)
        omega
theorem nodup_or : ∀ L : List Nat, L.Nodup ∨ ∃ l1 c l2 l3, L = l1 ++ c :: (l2 ++ c :: l3)
  | [] => .inl (by simp)
  | a :: L => by
    by_cases ha : a ∈ L
    · obtain ⟨s, t, e⟩ := List.append_of_mem ha
      exact .inr ⟨[], a, s, t, by rw [e]; rfl⟩
    · rcases nodup_or L with h | ⟨l1, c, l2, l3, e⟩
      · exact .inl (List.nodup_cons.2 ⟨ha, h⟩)
      · exact .inr ⟨a :: l1, c, l2, l3, by rw [e]; rfl⟩
/-- A closed way that meets no node twice is a permutation. -/
theorem cycle_perm {n : Nat} {W : Nat → Nat → Int} (hd : ∀ j, j < n → W j j = 0) : ∀ (l : List Nat) (a : Nat), (a :: l).Nodup → (∀ x ∈ a :: l, x < n) →
    ∃ σ, Perm n σ ∧ (∀ j, j ∉ a :: l → σ j = j) ∧ ∀ b, sumN (fun j => W j (σ j)) n - W a (σ a) + W b (σ a) = pw W b l a
  | [], a, _, hl => by
    refine ⟨fun j => j, Perm.id n, fun _ _ => rfl, fun b => ?_⟩
    have h0 : sumN (fun j => W j j) n = sumN (fun _ => 0) n := sumN_congr n hd
    have h1 : ∀ m, sumN (fun _ => 0) m = 0 := fun m => by induction m with | zero => rfl | succ m ih => simp only [sumN]; omega
    have h2 := hd a (hl a (by simp))
    simp only [pw]
    rw [h0, h1, h2]; omega
  | c :: l, a, hn, hl => by
    obtain ⟨ha, hn'⟩ := List.nodup_cons.1 hn
    have hac : a ≠ c := fun e => ha (by simp [e])
    have hal : a ∉ l := fun e => ha (by simp [e])
    obtain ⟨hcl, hnl⟩ := List.nodup_cons.1 hn'
    obtain ⟨σ, h1, h2, h3⟩ := cycle_perm hd l a (List.nodup_cons.2 ⟨hal, hnl⟩) (fun x hx => hl x (by
      rcases List.mem_cons.1 hx with rfl | hx
      · simp
      · simp [hx]))
    have han : a < n := hl a (by simp)
    have hcn : c < n := hl c (by simp)
    have hsc : σ c = c := h2 c (by simp [hcl, Ne.symm hac])
    refine ⟨fun j => σ (if j = a then c else if j = c then a else j), h1.comp ⟨fun j hj => ?_, fun i j hi hj e => ?_⟩, fun j hj => ?_, fun b => ?_⟩
    · show (if j = a then c else if j = c then a else j) < n
      split
      · exact hcn
      · split <;> omega
    · replace e : (if i = a then c else if i = c then a else i) = (if j = a then c else if j = c then a else j) := e
      by_cases i1 : i = a <;> by_cases i2 : i = c <;> by_cases j1 : j = a <;> by_cases j2 : j = c <;> simp only [i1, i2, j1, j2, if_true, if_false, if_neg (Ne.symm hac)] at e <;> omega
    · simp only [List.mem_cons, not_or] at hj
      show σ (if j = a then c else if j = c then a else j) = j
      rw [if_neg hj.1, if_neg hj.2.1]
      exact h2 j (by simp [hj.1, hj.2.2])
    · have e : sumN (fun j => W j (σ (if j = a then c else if j = c then a else j))) n = sumN (fun j => if j = a then W a (σ c) else (fun j => if j = c then W c (σ a) else W j (σ j)) j) n := by
        refine sumN_congr n (fun j hj => ?_)
        by_cases e1 : j = a
        · subst e1; simp
        · by_cases e2 : j = c
          · subst e2; simp [e1]
          · simp [e1, e2]
      have h4 := h3 c
      have h5 := hd c hcn
      rw [e, sumN_upd, if_pos han, sumN_upd, if_pos hcn]
      simp only [pw, if_pos, if_neg hac, hsc]
      rw [hsc] at *
      omega
theorem noNeg_of_perm {n : Nat} {W : Nat → Nat → Int} (hd : ∀ j, j < n → W j j = 0) (h : ∀ σ, Perm n σ → 0 ≤ sumN (fun j => W j (σ j)) n) : NoNeg n W := by
  have key : ∀ (m : Nat) (l : List Nat) (a : Nat), l.length ≤ m → a < n → (∀ x ∈ l, x < n) → 0 ≤ pw W a l a := by
    intro m
    induction m with
    | zero =>
      intro l a hl ha _
      obtain rfl : l = [] := List.length_eq_zero_iff.1 (by omega)
      show 0 ≤ W a a
      rw [hd a ha]; exact Int.le_refl _
    | succ m ih =>
      intro l a hl ha hx
      rcases nodup_or (a :: l) with hn | ⟨l1, c, l2, l3, e⟩
      · obtain ⟨σ, h1, _, h3⟩ := cycle_perm hd l a hn (fun x hx' => by
          rcases List.mem_cons.1 hx' with rfl | hx'
          · exact ha
          · exact hx x hx')
        have := h3 a
        have := h σ h1
        omega
      · cases l1 with
        | nil =>
          simp only [List.nil_append, List.cons.injEq] at e
          obtain ⟨rfl, rfl⟩ := e
          rw [pw_split]
          have a1 := ih l2 a (by simp at hl; omega) ha (fun x hx' => hx x (by simp [hx']))
          have a2 := ih l3 a (by simp at hl; omega) ha (fun x hx' => hx x (by simp [hx']))
          omega
        | cons d l1 =>
          simp only [List.cons_append, List.cons.injEq] at e
          obtain ⟨rfl, rfl⟩ := e
          have hc : c < n := hx c (by simp)
          rw [pw_split, pw_split]
          have a1 := ih l2 c (by simp at hl; omega) hc (fun x hx' => hx x (by simp [hx']))
          have a2 := ih (l1 ++ c :: l3) a (by simp at hl ⊢; omega) ha (fun x hx' => hx x (by
            simp only [List.mem_append, List.mem_cons] at hx' ⊢
            rcases hx' with h | h | h
            · exact .inl h
            · exact .inr (.inl h)
            · exact .inr (.inr (.inr (.inr h)))))
          rw [pw_split] at a2
          omega
  exact fun a l ha hl => key l.length l a (Nat.le_refl _) ha hl
theorem sumC_eq (C : Nat → Nat → Int) (P : Nat → Nat) : ∀ n, sumC C P n = sumN (fun i => C i (P i)) n
  | 0 => rfl
  | n + 1 => by simp only [sumC, sumN]; rw [sumC_eq C P n]
theorem sumN_sub (h h' : Nat → Int) : ∀ n, sumN (fun j => h j - h' j) n = sumN h n - sumN h' n
  | 0 => rfl
  | n + 1 => by simp only [sumN]; rw [sumN_sub h h' n]; omega
/-- The columns' bits. -/
def usedS (P : Nat → Nat) : Nat → Nat
  | 0 => 0
  | r + 1 => usedS P r ||| 2 ^ P r
theorem usedS_bit (P : Nat → Nat) (k : Nat) : ∀ r, (usedS P r).testBit k = true ↔ ∃ j, j < r ∧ P j = k
  | 0 => by simp [usedS]
  | r + 1 => by
    have ih := usedS_bit P k r
    simp only [usedS, bit_or, Bool.or_eq_true, decide_eq_true_eq]
    rw [ih]
    constructor
    · rintro (⟨j, h1, h2⟩ | h)
      · exact ⟨j, by omega, h2⟩
      · exact ⟨r, by omega, h⟩
    · rintro ⟨j, h1, h2⟩
      by_cases e : j = r
      · subst e; exact .inr h2
      · exact .inl ⟨j, by omega, h2⟩
theorem usedS_free {n : Nat} {P : Nat → Nat} (h : Perm n P) : ∀ r, r ≤ n → freeN (usedS P r) n = n - r
  | 0, _ => by simp [usedS, freeN_zero]
  | r + 1, hr => by
    have ih := usedS_free h r (by omega)
    have hu : (usedS P r).testBit (P r) = false := by
      cases e : (usedS P r).testBit (P r) with
      | false => rfl
      | true =>
        obtain ⟨j, h1, h2⟩ := (usedS_bit P _ r).1 e
        have := h.2 j r (by omega) (by omega) h2
        omega
    have := freeN_set hu n
    rw [if_pos (h.1 r (by omega))] at this
    show freeN (usedS P r ||| 2 ^ P r) n = _
    omega
theorem Perm.onto {n : Nat} {P : Nat → Nat} (h : Perm n P) {k : Nat} (hk : k < n) : ∃ j, j < n ∧ P j = k :=
  (usedS_bit P k n).1 (freeN_none n (by rw [usedS_free h n (Nat.le_refl _)]; omega) k hk)
theorem Perm.fresh {n : Nat} {P : Nat → Nat} (h : Perm n P) {r : Nat} (hr : r < n) : (usedS P r).testBit (P r) = false := by
  cases e : (usedS P r).testBit (P r) with
  | false => rfl
  | true =>
    obtain ⟨j, h1, h2⟩ := (usedS_bit P _ r).1 e
    have := h.2 j r (by omega) (by omega) h2
    omega
/-- No matching costs less than the table says. -/
theorem tabU_least {T : Int} {n : Nat} {C : Nat → Nat → Int} {P : Nat → Nat} (h : Perm n P) : tabU (· + ·) T n C 0 ≤ sumC C P n := by
  have key : ∀ r, r ≤ n → tabU (· + ·) T n C 0 ≤ sumC C P r + tabU (· + ·) T n C (usedS P r) := by
    intro r
    induction r with
    | zero => intro _; simp only [sumC, usedS]; omega
    | succ r ih =>
      intro hr
      have h1 := ih (by omega)
      have h2 := tabU_le (T := T) (C := C) (h.1 r (by omega)) (h.fresh (show r < n by omega))
      rw [usedS_free h r (by omega), show n - (n - r) = r by omega] at h2
      show _ ≤ sumC C P r + C r (P r) + tabU _ _ _ _ (usedS P r ||| 2 ^ P r)
      omega
  have := key n (Nat.le_refl _)
  rw [tabU_full _ _ _ _ (usedS P n) (by rw [usedS_free h n (Nat.le_refl _)]; omega)] at this
  omega
theorem usedM_usedS (n : Nat) (C : Nat → Nat → Int) (F : Nat → Int) : ∀ r, usedM n C F r = usedS (placeM n C F) r
  | 0 => rfl
  | r + 1 => by
    show usedM n C F r ||| 2 ^ placeM n C F r = usedS _ r ||| 2 ^ placeM n C F r
    rw [usedM_usedS n C F r]
theorem placeM_perm {T : Int} {n : Nat} {C : Nat → Nat → Int} (hT : 0 ≤ T) (hC : ∀ i k, i < n → k < n → 0 ≤ C i k) (h0 : tabU (· + ·) T n C 0 < T) : Perm n (placeM n C (tabU (· + ·) T n C)) := by
  have H := fun r (hr : r < n) => (placeM_ok hT hC h0 r (by omega)).2.2.2.2 hr
  refine ⟨fun j hj => (H j hj).1, fun i j hi hj e => ?_⟩
  have nob : ∀ a b, a < b → b < n → placeM n C (tabU (· + ·) T n C) a = placeM n C (tabU (· + ·) T n C) b → False := by
    intro a b hab hb e
    have := (H b hb).2.1
    unfold okM at this
    simp only [Bool.and_eq_true, Bool.not_eq_true'] at this
    have h2 := (usedS_bit (placeM n C (tabU (· + ·) T n C)) (placeM n C (tabU (· + ·) T n C) b) b).2 ⟨a, hab, e⟩
    rw [← usedM_usedS] at h2
    rw [h2] at this
    cases this.1
  rcases Nat.lt_trichotomy i j with h | h | h
  · exact absurd e (fun e => nob i j h hj e)
  · exact h
  · exact absurd e.symm (fun e => nob j i h hi e)
/-- The columns' numbers z bound each other. -/
def Feas (n : Nat) (C : Nat → Nat → Int) (P : Nat → Nat) (z : Nat → Int) : Prop := ∀ i k, i < n → k < n → z k ≤ z (P i) + (C i k - C i (P i))
theorem feas_ex {n : Nat} {C : Nat → Nat → Int} {P : Nat → Nat} (hP : Perm n P) (hn : 0 < n) (hl : ∀ σ, Perm n σ → sumC C P n ≤ sumC C σ n) :
    ∃ z, Feas n C P z ∧ (∀ k, k < n → z k ≤ 0) ∧ ∃ k, k < n ∧ z k = 0 := by
  obtain ⟨y, hy⟩ := potentials n (fun j k => C j (P k) - C j (P j)) (noNeg_of_perm (fun j _ => by simp) (fun σ hσ => by
    have := hl _ (hP.comp hσ)
    rw [sumC_eq, sumC_eq] at this
    rw [sumN_sub (fun j => C j (P (σ j))) (fun j => C j (P j))]
    omega))
  have hinv : ∀ k, ∃ j, k < n → j < n ∧ P j = k := fun k => by
    by_cases hk : k < n
    · obtain ⟨j, h⟩ := hP.onto hk
      exact ⟨j, fun _ => h⟩
    · exact ⟨0, fun h => absurd h hk⟩
  obtain ⟨g, hg⟩ := Classical.axiomOfChoice hinv
  have gP : ∀ i, i < n → g (P i) = i := fun i hi => by
    obtain ⟨h1, h2⟩ := hg (P i) (hP.1 i hi)
    exact hP.2 _ _ h1 hi h2
  obtain ⟨m, hm, hmx⟩ := least_ex (fun j => -(y j)) n hn
  refine ⟨fun k => y (g k) - y m, fun i k hi hk => ?_, fun k hk => ?_, P m, hP.1 m hm, ?_⟩
  · obtain ⟨h1, h2⟩ := hg k hk
    have := hy i (g k) hi h1
    simp only [h2] at this
    simp only [gP i hi]
    omega
  · have := hmx (g k) (hg k hk).1
    simp only at this ⊢
    omega
  · simp only [gP m hm]
    omega
theorem feas_low {n : Nat} {C : Nat → Nat → Int} {P : Nat → Nat} {M : Int} (hP : Perm n P) (hC : ∀ i k, i < n → k < n → 0 ≤ C i k ∧ C i k ≤ M) {z : Nat → Int} (hz : Feas n C P z) {k0 : Nat} (h0 : k0 < n) (hz0 : z k0 = 0) :
    ∀ k, k < n → -M ≤ z k := by
  intro k hk
  obtain ⟨i, hi, rfl⟩ := hP.onto hk
  have := hz i k0 hi h0
  have := hC i k0 hi h0
  have := hC i (P i) hi hk
  omega
/-! ### Rounds -/
def upd (x : Nat → Int) (a : Nat) (v : Int) (j : Nat) : Int := if j = a then v else x j
def rowR (C : Nat → Nat → Int) (P : Nat → Nat) (i : Nat) (x : Nat → Int) : Nat → Nat → Int
  | 0 => x
  | k + 1 => upd (rowR C P i x k) k (min (rowR C P i x k k) (rowR C P i x k (P i) + (C i k - C i (P i))))
def roundR (C : Nat → Nat → Int) (P : Nat → Nat) (n : Nat) (x : Nat → Int) : Nat → Nat → Int
  | 0 => x
  | i + 1 => rowR C P i (roundR C P n x i) n
def roundsR (C : Nat → Nat → Int) (P : Nat → Nat) (n : Nat) (x : Nat → Int) : Nat → Nat → Int
  | 0 => x
  | t + 1 => roundR C P n (roundsR C P n x t) n
section
variable {n : Nat} {C : Nat → Nat → Int} {P : Nat → Nat} {x z : Nat → Int}
theorem rowR_le (i : Nat) : ∀ k j, rowR C P i x k j ≤ x j
  | 0, _ => Int.le_refl _
  | k + 1, j => by
    have := rowR_le i k j
    simp only [rowR, upd]
    split
    · rename_i e; subst e; omega
    · exact this
theorem roundR_le : ∀ i j, roundR C P n x i j ≤ x j
  | 0, _ => Int.le_refl _
  | i + 1, j => Int.le_trans (rowR_le i n j) (roundR_le i j)
theorem rowR_ge (hz : Feas n C P z) (hP : Perm n P) {i : Nat} (hi : i < n) (h : ∀ j, j < n → z j ≤ x j) : ∀ k, k ≤ n → ∀ j, j < n → z j ≤ rowR C P i x k j
  | 0, _, j, hj => h j hj
  | k + 1, hk, j, hj => by
    have ih := rowR_ge hz hP hi h k (by omega)
    simp only [rowR, upd]
    split
    · rename_i e
      subst e
      have a1 := ih j hj
      have a2 := ih (P i) (hP.1 i hi)
      have a3 := hz i j hi hj
      omega
    · exact ih j hj
theorem roundR_ge (hz : Feas n C P z) (hP : Perm n P) (h : ∀ j, j < n → z j ≤ x j) : ∀ i, i ≤ n → ∀ j, j < n → z j ≤ roundR C P n x i j
  | 0, _, j, hj => h j hj
  | i + 1, hi, j, hj => rowR_ge hz hP (by omega) (roundR_ge hz hP h i (by omega)) n (Nat.le_refl _) j hj
theorem roundsR_ge (hz : Feas n C P z) (hP : Perm n P) (h : ∀ j, j < n → z j ≤ x j) : ∀ t, ∀ j, j < n → z j ≤ roundsR C P n x t j
  | 0, j, hj => h j hj
  | t + 1, j, hj => roundR_ge hz hP (roundsR_ge hz hP h t) n (Nat.le_refl _) j hj
theorem roundsR_le : ∀ t j, roundsR C P n x t j ≤ x j
  | 0, _ => Int.le_refl _
  | t + 1, j => Int.le_trans (roundR_le n j) (roundsR_le t j)
theorem rowR_bound (i : Nat) : ∀ k m, m < k → rowR C P i x k m ≤ x (P i) + (C i m - C i (P i))
  | 0, m, h => absurd h (by omega)
  | k + 1, m, h => by
    simp only [rowR, upd]
    split
    · rename_i e
      subst e
      have := rowR_le (C := C) (P := P) (x := x) i m (P i)
      omega
    · exact rowR_bound i k m (by omega)
theorem roundR_bound {i m : Nat} (hm : m < n) : ∀ r, i < r → roundR C P n x r m ≤ x (P i) + (C i m - C i (P i))
  | 0, h => absurd h (by omega)
  | r + 1, h => by
    by_cases e : i = r
    · subst e
      have := rowR_bound (C := C) (P := P) (x := roundR C P n x i) i n m hm
      have := roundR_le (C := C) (P := P) (n := n) (x := x) i (P i)
      show rowR C P i (roundR C P n x i) n m ≤ _
      omega
    · have := roundR_bound hm r (show i < r by omega)
      have := rowR_le (C := C) (P := P) (x := roundR C P n x r) r n m
      show rowR C P r (roundR C P n x r) n m ≤ _
      omega
end
def cntN (p : Nat → Bool) : Nat → Nat
  | 0 => 0
  | k + 1 => cntN p k + if p k then 1 else 0
theorem cntN_le (p : Nat → Bool) : ∀ n, cntN p n ≤ n
  | 0 => Nat.le_refl _
  | n + 1 => by have := cntN_le p n; simp only [cntN]; split <;> omega
theorem cntN_mono {p q : Nat → Bool} : ∀ n, (∀ k, k < n → p k = true → q k = true) → cntN p n ≤ cntN q n
  | 0, _ => Nat.le_refl _
  | n + 1, h => by
    have := cntN_mono n (fun k hk => h k (by omega))
    have := h n (by omega)
    simp only [cntN]
    by_cases e : p n = true
    · rw [if_pos e, if_pos (this e)]; omega
    · rw [if_neg e]; split <;> omega
theorem cntN_lt {p q : Nat → Bool} {a : Nat} (hp : p a = false) (hq : q a = true) : ∀ n, a < n → (∀ k, k < n → p k = true → q k = true) → cntN p n < cntN q n
  | 0, h, _ => absurd h (by omega)
  | n + 1, ha, h => by
    simp only [cntN]
    by_cases e : a = n
    · subst e
      have := cntN_mono a (fun k hk => h k (by omega))
      rw [if_pos hq, hp]; simp; omega
    · have := cntN_lt hp hq n (by omega) (fun k hk => h k (by omega))
      have h2 := h n (by omega)
      by_cases e2 : p n = true
      · rw [if_pos e2, if_pos (h2 e2)]; omega
      · rw [if_neg e2]; split <;> omega
theorem cntN_all {p : Nat → Bool} : ∀ n, n ≤ cntN p n → ∀ k, k < n → p k = true
  | 0, _, k, hk => absurd hk (by omega)
  | n + 1, h, k, hk => by
    have := cntN_le p n
    simp only [cntN] at h
    by_cases e : k = n
    · subst e
      by_cases e2 : p k = true
      · exact e2
      · rw [if_neg e2] at h; omega
    · exact cntN_all n (by split at h <;> omega) k (by omega)
/-- After n rounds from 0 nothing turns any more: the greatest numbers that are none above 0. -/
theorem rounds_greatest {n : Nat} {C : Nat → Nat → Int} {P : Nat → Nat} (hP : Perm n P) {y : Nat → Int} (hy : Feas n C P y) (hy0 : ∀ k, k < n → y k ≤ 0)
    (hg : ∀ z, Feas n C P z → (∀ k, k < n → z k ≤ 0) → ∀ k, k < n → z k ≤ y k) : ∀ k, k < n → roundsR C P n (fun _ => 0) n k = y k := by
  have ge := roundsR_ge (x := fun _ => 0) hy hP hy0
  have key : ∀ t, t ≤ cntN (fun k => roundsR C P n (fun _ => 0) t k == y k) n ∨ ∀ k, k < n → roundsR C P n (fun _ => 0) t k = y k := by
    intro t
    induction t with
    | zero => exact .inl (Nat.zero_le _)
    | succ t ih =>
      have keep : ∀ k, k < n → roundsR C P n (fun _ => 0) t k = y k → roundsR C P n (fun _ => 0) (t + 1) k = y k := fun k hk e => by
        have a := ge (t + 1) k hk
        have b : roundsR C P n (fun _ => 0) (t + 1) k ≤ roundsR C P n (fun _ => 0) t k := roundR_le n k
        omega
      rcases ih with ih | ih
      · by_cases hall : ∀ k, k < n → roundsR C P n (fun _ => 0) t k = y k
        · exact .inr (fun k hk => keep k hk (hall k hk))
        · by_cases hnew : ∃ k, k < n ∧ roundsR C P n (fun _ => 0) t k ≠ y k ∧ roundsR C P n (fun _ => 0) (t + 1) k = y k
          · obtain ⟨k, hk, h1, h2⟩ := hnew
            refine .inl (Nat.lt_of_le_of_lt ih (cntN_lt (a := k) (by simpa using h1) (by simpa using h2) n hk (fun j hj e => ?_)))
            simp only [beq_iff_eq] at e ⊢
            exact keep j hj e
          · exfalso
            have hnew' : ∀ k, k < n → roundsR C P n (fun _ => 0) t k ≠ y k → y k < roundsR C P n (fun _ => 0) (t + 1) k := fun k hk h1 => by
              have a := ge (t + 1) k hk
              have : roundsR C P n (fun _ => 0) (t + 1) k ≠ y k := fun e => hnew ⟨k, hk, h1, e⟩
              omega
            have hf : Feas n C P (fun k => if roundsR C P n (fun _ => 0) t k = y k then y k else y k + 1) := fun i k hi hk => by
              have h1 := hy i k hi hk
              by_cases e : roundsR C P n (fun _ => 0) t k = y k
              · simp only [if_pos e]
                split <;> omega
              · simp only [if_neg e]
                by_cases e2 : roundsR C P n (fun _ => 0) t (P i) = y (P i)
                · simp only [if_pos e2]
                  have h2 := hnew' k hk e
                  have h3 := roundR_bound (C := C) (P := P) (x := roundsR C P n (fun _ => 0) t) (i := i) hk n hi
                  rw [e2] at h3
                  have h4 : roundsR C P n (fun _ => 0) (t + 1) k = roundR C P n (roundsR C P n (fun _ => 0) t) n k := rfl
                  omega
                · simp only [if_neg e2]
                  omega
            have h0 := hg _ hf (fun k hk => by
              split
              · exact hy0 k hk
              · rename_i e
                have a := ge t k hk
                have b : roundsR C P n (fun _ => 0) t k ≤ 0 := roundsR_le t k
                omega)
            refine hall (fun k hk => ?_)
            have := h0 k hk
            split at this
            · assumption
            · omega
      · exact .inr (fun k hk => keep k hk (ih k hk))
  rcases key n with h | h
  · intro k hk
    have := cntN_all n h k hk
    simpa using this
  · exact h
end Go.Proofs.Ytadlemadnifohaa
